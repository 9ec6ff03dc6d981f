/- Own text: part VAR. -/
import Derived.Test.YtgippllfnmdnpaaGreatDoorVAP
import Derived.Test.YtgippllfnmdnpaaGreatDoorVAQ
import Derived.Test.YtgippllfnmdnpaaGreatDoorVAL
import Derived.Test.YtgippllfnmdnpaaGreatDoorVAJ
import Derived.Test.YtgippllfnmdnpaaGreatDoorVAK
import Derived.Test.YtgippllfnmdnpaaGreatDoorVAM
import Derived.Shelf.Strings.Repeat
import Derived.Shelf.Strings.Search2
import Derived.Lib.Join
import Derived.Lib.Replace
import Derived.Lib.CountLaws
import Derived.Shelf.Unicode.DecodeSlow
set_option linter.all false
section
namespace Go.Pl
theorem Re{s:Bs}{q:Nat}(h:ib s q≠0):js s q=false:=by
 have d:=jH h;have a:bW s q=45\/bW s q=46:=by
  have e:∀b:UInt8,sub s q (q+3)=[b,b,b]->s.getD q 0=b:=by intro b a;have c:=cD (fun x=>x.getD 0 0) a;simp only[sub,aG,bY]at c;rw[gl,ef (by omega),<-aG]at c;simpa using c
  rw[cW (by omega)];unfold ib at h;split at h
  ·split at h
   ·rename_i c;left;rw[e 45 c];rfl
   split at h
   ·rename_i c;right;rw[e 46 c];rfl
   exact absurd rfl h
  exact absurd rfl h
 unfold js;rw[d.2,RQ (by unfold nD;rcases a with a|a<;>rw[a]<;>decide)];unfold kH;rcases a with a|a<;>rw[a]<;>decide
theorem Ki{s:Bs}{q:Nat}(h:js s q=true):ib s q=0:=by
 by_cases hm:ib s q=0
 ·exact hm
 rw[Re hm]at h;cases h
theorem Ra{s:Bs}{q:Nat}{n:Int}(h:q<s.length)(a:js s q=true)(he:¬en s q<s.length):um s q n=(60000,s.length):=by
 rw[zI ⟨h,Ki a⟩ a];have e:gZ s (en s q)=s.length:=by have:=jZ s (en s q);unfold gZ at *;omega
 rw[e,Kl (by omega)]
theorem Ux(s:Bs)(a:Nat)(n:Int)(h:a<=s.length):a<=(um s a n).2:=by
 fun_induction um s a n with
 |case1 a b c d=>exact aN _
 |case2 a b c d=>exact h
 |case3 a b c e=>
  have d:=lv b.1;have:=e (jZ s _);omega
 |case4 a b=>exact h
theorem VN(s:Bs)(i:Nat):bl s i<=wh s i:=by
 fun_induction bl s i with
 |case1 i h a=>rw[Vs (by unfold nD;rw[h];decide)];exact a
 |case2 i h=>exact gY s i
theorem Uk{s:Bs}{q:Nat}(h:js s q=false)(k:q<=s.length):jG s q<s.length:=by unfold js at h;have e:=kb h;have g:wh s (la s q)<s.length:=e;unfold jG;have i:=y5 s (la s q);have j:bl s (la s q)<=wh s (la s q):=VN s _;omega
theorem D4{s:Bs}{q d F:Nat}{n:Int}{b:Bool}(k:s.length<=60000)(e:q<s.length)(hm:ib s q=0)(h:b=true->F<=q)(i:b=false->um s q n=(d,F))(j:¬(js s q=false/\jG s q<d)) :
  (F<=q/\(js s q=false\/d<jG s q))↔(js s q=false\/(b=true/\d<jG s q)):=by
 cases b with
 |true=>have:=h rfl;simp only[this,cP]
 |false=>
  have a:=i rfl;cases c:js s q
  ·rw[Km ⟨e,hm⟩ c]at a;have f:=Uk c (cJ e);by_cases g:n<(jG s q:Int)
   ·rw[aB g]at a;obtain⟨rfl,rfl⟩:=Prod.mk.inj a;simp
   rw[aA g]at a;obtain⟨rfl,rfl⟩:=Prod.mk.inj a;exact absurd ⟨c,by omega⟩ j
  rw[zI ⟨e,hm⟩ c]at a;have f:=Ux s (gZ s (en s q)) n (jZ s _);have g:=lv e;rw[a]at f;simp only at f;simp;omega
theorem CK:∀(l:List Bs) (x:Bs),Go.Lib.join (l++[x]) [10]=(if l=[]then[]else Go.Lib.join l [10]++[10])++x
 |[],x=>by simp[Go.Lib.join,List.intercalate]
 |[a],x=>by simp[Go.Lib.join,List.intercalate,List.intersperse]
 |a::b::r,x=>by
  have c:=CK (b::r) x;rw[aA (by simp)]at c |-
  simp only[Go.Lib.join,List.intercalate,eL,List.intersperse_cons_cons,List.flatten_cons]at c |-
  rw[c];simp[bS]
theorem LZ{l:List Bs}{i:Nat}(h:i<l.length):Go.Lib.join (l.take (i+1)) [10]=(if i=0 then[]else Go.Lib.join (l.take i) [10]++[10])++l.getD i []:=by
 rw[fR,aS h,Option.toList_some,CK,aG,aS h];by_cases b:i=0
 ·subst b;rw[aB rfl,aB (by simp)];rfl
 rw[aA b,aA (by intro c;have a:=cD List.length c;rw[aZ]at a;simp only[aL]at a;omega)];rfl
theorem DJ{l:List Bs}{fo:Bool}{ch:Int}{n i:Nat}(g:yA l l.length=n)(j:n<=i)(k:i<=l.length)(f:ch=2->i=l.length)(c:ch≠2->i=n) :
  (if 0<n/\ch≠1 then(if fo=true then xq (l.take n) [] 0 []else Go.Lib.join (l.take n) [10])++[10]else(if fo=true then xq (l.take n) [] 0 []else Go.Lib.join (l.take n) [10]))++List.replicate (i-n) 10=Qr l fo ch:=by
 unfold Qr;rw[g];by_cases d:n=0
 ·subst d;rw[aA (by omega),aB rfl];have e:(if fo=true then xq (l.take 0) [] 0 []else Go.Lib.join (l.take 0) [10])=[]:=by cases fo<;>rfl
  rw[e];by_cases a:ch=2
  ·rw[aB a,f a];simp
  rw[aA a,c a];simp
 rw[aA d];generalize (if fo=true then xq (l.take n) [] 0 []else Go.Lib.join (l.take n) [10])=B;by_cases b:ch=1
 ·rw[aA (fun h=>h.2 b),aB b,c (by omega)];simp
 rw[aB ⟨by omega,b⟩,aA b];by_cases a:ch=2
 ·rw[aB a,f a,show 1+l.length-n=(l.length-n)+1 by omega,List.replicate_succ];simp
 rw[aA a,c a];simp
end Go.Pl
namespace Go.Pl
def Mb(s:Bs)(r:Rd)(a:Bool):Rd:=if a=false/\(iA s r.pos).2=false then er r 8 (iA s r.pos).1 else jn s r r.pos
def FF(s:Bs)(p:Nat)(n:Int)(a:Bool):Bool:=!fV s p&&Ib s p n a
end Go.Pl
namespace Go.Pl
theorem NI{l:Bs}{c:UInt8}(h:∀j,j<l.length->l.getD j 0≠c):idx l c = -1:=by unfold idx;rw[List.findIdx?_eq_none_iff.2];intro x b;obtain⟨j,a,rfl⟩:=List.getElem_of_mem b;have:=h j a;rw[aG,aS a]at this;simpa using this
theorem Uh{l:Bs}{c:UInt8}{i:Nat}(b:i<l.length)(a:l.getD i 0=c)(d:∀j,j<i->l.getD j 0≠c):idx l c=i:=by
 unfold idx;rw[List.findIdx?_eq_some_iff_getElem.2 ⟨b,by
  rw[aG,aS b]at a;simpa using a,fun j e=>by
  have:=d j e;rw[aG,aS (by omega)]at this;simpa using this⟩]
theorem OK{s:Bs}{r:Rd}{f:Nat}(h:fV s (dR s f)=true\/¬wh s (la s (dR s f))=dR s f):jn s r f=atR r (dR s f):=by
 unfold jn;by_cases a:fV s (dR s f)=true
 ·rw[aB a]
 rw[aA a];unfold kB;exact aB (h.resolve_left a)
theorem OJ{s:Bs}{r:Rd}{f:Nat}(h:fV s (dR s f)=false)(hw:wh s (la s (dR s f))=dR s f)(d:dR s f<=s.length)(c:∀j,la s (dR s f)<=j->j<dR s f->s.getD j 0≠9):jn s r f=atR r (dR s f):=by
 have hle:=nP s (dR s f);unfold jn;rw[aA (by rw[h];simp)];unfold kB;rw[aA (by simpa[atR]using hw)];have e:idx (sub s (la s (dR s f)) (dR s f)) 9 = -1:=NI fun j a=>by
  have b:j<dR s f-la s (dR s f):=by simp only[sub,bK,aZ]at a;omega
  have:=c (la s (dR s f)+j) (by omega) (by omega);simp only[sub,aG,bY];rw[ef (by omega),<-aG];exact this
 rw[aB (by simp only[atR];rw[e];decide)]
theorem Rp{s:Bs}{r:Rd}{f i:Nat}(h:fV s (dR s f)=false)(hw:wh s (la s (dR s f))=dR s f)(l:dR s f<=s.length)(g:la s (dR s f)<=i)(k:i<dR s f)(c:s.getD i 0=9)(d:∀j,la s (dR s f)<=j->j<i->s.getD j 0≠9):jn s r f=er (atR r (dR s f)) 2 i:=by
 have a:∀j,la s (dR s f)+j<dR s f->(sub s (la s (dR s f)) (dR s f)).getD j 0=s.getD (la s (dR s f)+j) 0:=fun j b=>by simp only[sub,aG,bY];rw[ef b]
 unfold jn;rw[aA (by rw[h];simp)];unfold kB;rw[aA (by simpa[atR]using hw)];have e:idx (sub s (la s (dR s f)) (dR s f)) 9=((i-la s (dR s f):Nat):Int):=Uh (by simp only[sub,bK,aZ];omega) (by rw[a _ (by omega),show la s (dR s f)+(i-la s (dR s f))=i by omega];exact c) fun j b=>by rw[a j (by omega)];exact d _ (by omega) (by omega)
 rw[aA (by simp only[atR];rw[e];omega)];simp only[atR];rw[e,Int.toNat_natCast,show la s (dR s f)+(i-la s (dR s f))=i by omega]
end Go.Pl
end
section
namespace Go.Pl
theorem LG(s:Bs)(p:Nat):wh s p=p\/nD s (wh s p-1)=true:=by
 fun_induction wh s p with
 |case1 i h g=>
  right;rcases g with d|d
  ·rw[d,Nat.add_sub_cancel];exact h
  ·exact d
 |case2 i h=>exact .inl rfl
theorem UY{s:Bs}{p:Nat}(h:(iA s p).2=true):dR s (iA s p).1=dR s p:=by
 unfold iA at h |-
 split
 ·rename_i a;rw[<-DW s p];rcases a with a|a
  ·simp only;rw[T4 a]
  simp only;refine(JV ?_).symm;unfold NA;rw[aJ a.1,di,aV,aE];rcases a.2 with b|b
  ·exact .inr ((LG s p).resolve_left b)
  rcases LG s p with c|c
  ·rw[c];exact .inl b
  exact .inr c
 rename_i a;rw[aA a]at h;cases h
theorem Ec{s:Bs}{r:Rd}{p:Nat}(h:(iA s p).2=true):jn s r (iA s p).1=jn s r p:=by unfold jn;rw[UY h]
theorem SH{s:Bs}{hd:List Hd}{fl:Bool}{pos:Nat}{p:Pp}(b:(lk s hd fl pos p).2.2=0):((lk s hd fl pos p).2.1=p/\(lk s hd fl pos p).1=pos)\/((lk s hd fl pos p).2.1.has=true/\(lk s hd fl pos p).1=HO s fl (lk s hd fl pos p).2.1.en):=by
 fun_induction lk s hd fl pos p with
 |case1 pos p h d=>
  have c:pos<s.length:=by
   have:=h.1;unfold lA at this;rcases aW this with a|a
   ·exact cE a (by decide)
   exact cE a (by decide)
  rcases d b with a|a
  ·right;rw[a.1,a.2];exact⟨(mE (cJ c) h.2).2.2,rfl⟩
  ·exact .inr a
 |case2 pos p h=>
  simp only at b |-
  by_cases a:lA s pos=true
  ·rw[aB a]at b;exact absurd ⟨a,b⟩ h
  rw[aA a];exact .inl ⟨rfl,trivial⟩
theorem SG{s:Bs}{fl:Bool}{r:Rd}(b:r.cd=0)(h:(iP s fl r).cd=0):(lk s r.hd fl r.pos (kF r.pos)).2.2=0:=by
 unfold iP at h;by_cases a:(lk s r.hd fl r.pos (kF r.pos)).2.2=0
 ·exact a
 rw[aA a]at h;exact absurd h a
theorem OX{s:Bs}{fl:Bool}{r:Rd}(d:r.cd=0)(h:(iP s fl r).cd=0)(b:(ia s fl r).has=false):iP s fl r=r/\ia s fl r=kF r.pos:=by
 have c:=SG d h;rcases SH c with a|a
 ·refine⟨?_,a.1⟩;unfold iP;rw[aB c,a.2];rfl
 unfold ia at b;rw[a.1]at b;cases b
theorem OW{s:Bs}{r:Rd}(d:r.cd=0)(h:(iP s false r).cd=0)(b:(ia s false r).has=true):(iP s false r).pos=wh s (ia s false r).en:=by
 have c:=SG d h;rcases SH c with a|a
 ·unfold ia at b;rw[a.1]at b;cases b
 unfold iP;rw[aB c];exact a.2
theorem D8(s:Bs)(x:Rb):Mb s x.r x.fr=(nG s x).r:=by unfold Mb nG;split<;>rfl
theorem Eb(s:Bs)(r:Rd)(p q:Nat):jn s (atR r q) p=jn s r p:=by unfold jn atR;rfl
theorem D2{s:Bs}{r:Rd}{b:Bool}{an tg:Bs}(h:bW s r.pos=42\/je (bW s r.pos)=true):vH s r ⟨b,an,tg,0⟩ (-1) false=qP s r ⟨b,an,tg,0⟩:=by
 unfold vH qP;rcases h with h|h
 ·rw[aB h,aB h]
 by_cases a:bW s r.pos=42
 ·rw[aB a,aB a]
 rw[aA a,aA a,aB h,aB h]
theorem Un{s:Bs}{r:Rd}{a:Bool}{an tg:Bs}{e:Nat}:qP s r ⟨a,an,tg,e⟩=qP s r ⟨a,an,tg,0⟩:=by unfold qP;rfl
end Go.Pl
namespace Go.Pl
theorem Vp(s:Bs)(a:Int->Bool->Bool->Rb->Rb)(sg:Nat)(c:Int)(li:Bool)(y:Rb)(r:Rd)(q:Nat):ls s a sg c li (bI y (atR r q))=ls s a sg c li (bI y r):=by unfold ls;simp only[bI,Eb];rfl
end Go.Pl
namespace Go.Pl
theorem U6{s:Bs}{r:Rd}{p:Pp}{n:Int}{fl:Bool}(h:EO s r fl=false):vH s r p n fl=r:=by unfold EO at h;simp only[aY,aO]at h;unfold vH;rw[aA h.1.1,aA (by rw[h.1.2];simp),aA (by rw[h.2];simp)]
theorem Wh{s:Bs}{x:Rb}{p:Pp}{n:Int}(b:¬(bW s x.r.pos=124\/bW s x.r.pos=62))(c:¬(bW s x.r.pos=91\/bW s x.r.pos=123)):qD s x p n=if EO s x.r false=true then⟨vH s x.r ⟨p.has,p.an,p.tg,0⟩ n false,false,x.lt⟩else⟨er x.r 10 x.r.pos,false,x.lt⟩:=by
 unfold qD vH EO;rw[aA b,aA c];by_cases a:bW s x.r.pos=42
 ·rw[aB a,aB a,aB (by simp[a])]
 rw[aA a,aA a];cases d:je (bW s x.r.pos)
 ·cases e:yE s x.r.pos false
  ·simp[a]
  simp[a];rfl
 simp;rfl
theorem Pg{s:Bs}{x:Rb}{p:Pp}{n:Int}(h:bW s x.r.pos=91\/bW s x.r.pos=123):qD s x p n=⟨Cc s x.r p,false,x.lt⟩:=by unfold qD;rw[aA (by omega),aB h]
end Go.Pl
namespace Go.Pl
theorem Ro{s:Bs}{r:Rd}(a:dR s r.pos=r.pos)(b:fV s r.pos=false):jn s r r.pos=kB s r:=by unfold jn;rw[a,aA (by rw[b];simp)];rfl
end Go.Pl
end
section
namespace Go.Pl
def oU(s:Bs)(r:Rd)(y:Bool):Rd:=if uG s r y=false then er r 13 r.pos else atR (lj r (mD s r)) (dR s (en s r.pos))
def T2(s:Bs)(y:Bool)(r:Rd):Rd:=if lY s r.pos=true then vO s y r else if ib s r.pos=1 then r else er r 13 r.pos
theorem R4{s:Bs}{y:Bool}{r:Rd}(hd:lY s r.pos=true)(a:DD s r):vO s y r=if(lN s r y).cd≠0 then lN s r y else vO s (By s r.pos y) (lN s r y):=by
 rw[vO,aB hd];by_cases h:(lN s r y).cd≠0
 ·rw[aB h,aB h]
 rw[aA h,aA h,bV ⟨(Ic a hd (by simpa using h)).2.2,(pJ hd).2.1⟩]
theorem R3{s:Bs}{y:Bool}{r:Rd}(hd:¬lY s r.pos=true):vO s y r=r:=by rw[vO,aA hd]
theorem QF{s:Bs}{y:Bool}{r:Rd}(hd:lY s r.pos=true)(b:DD s r)(h:¬(oU s r y).cd=0):(vO s y r).ev=(oU s r y).ev/\(vO s y r).cd=(oU s r y).cd/\(vO s y r).pl=(oU s r y).pl:=by
 have a:uG s r y=false:=by
  cases a:uG s r y
  ·rfl
  exfalso;apply h;unfold oU;rw[a];exact b.cd
 have e:lN s r y=er (lj r (mD s r)) 13 r.pos:=by unfold lN;rw[aB a]
 rw[R4 hd b,e,aB (by simp[er])];unfold oU;rw[aB a];exact⟨rfl,rfl,rfl⟩
theorem T0{s:Bs}{y:Bool}{r:Rd}(hd:lY s r.pos=true)(b:DD s r)(h:(oU s r y).cd=0):vO s y r=T2 s (By s r.pos y) (oU s r y)/\DD s (oU s r y)/\r.pos<(oU s r y).pos/\(oU s r y).ev=r.ev/\(oU s r y).bs=r.bs:=by
 have g:¬uG s r y=false:=by intro g;unfold oU at h;rw[aB g]at h;simp[er]at h
 have e:oU s r y=atR (lj r (mD s r)) (dR s (en s r.pos)):=by unfold oU;rw[aA g]
 have m:(oU s r y).pos=dR s (en s r.pos):=by rw[e];rfl
 have q:DD s (oU s r y)/\r.pos<(oU s r y).pos:=by
  obtain⟨o,A,B⟩:=pJ hd;have z:kH s r.pos=false:=by unfold kH;rw[o];decide
  have F:=FI z;have C:=jF s r.pos (cJ A);have G:=fq s (en s r.pos);have D:=ez s (en s r.pos) C;rw[e];refine⟨⟨b.cd,D,b.dn,b.bs,b.dp, ?_, ?_, ?_⟩,by simp only[atR];omega⟩
  ·have:=b.sz;simp only[atR,lj];omega
  ·have E:=b.hd;simp only[atR,lj,mD]
   repeat' split
   all_goals(try simp only[aC,aH]);omega
  intro x i;simp only[atR,lj,mD]at i;split at i
  ·exact b.pf x i
  rename_i u;split at i
  ·rename_i v;rcases dh.1 i with p|p
   ·exact b.pf x p
   have w:x=Bx s r.pos:=by simpa using p
   have c:uG s r y=true:=by simpa using g
   unfold uG at c;rw[aA u,aB v]at c;simp only[aD]at c;have f:=c.1;unfold HH at f;simp only[aD,aE]at f;rw[w];exact f.1.2.2
  exact b.pf x i
 refine⟨?_,q.1,q.2,by rw[e];rfl,by rw[e];rfl⟩;rw[R4 hd b];unfold T2;by_cases j:ib s (dR s (en s r.pos))=1\/lY s (dR s (en s r.pos))=true
 ·have n:lN s r y=oU s r y:=by unfold lN;rw[aA g,aB j,e]
  rw[n,aA (by simpa using h)];by_cases d:lY s (oU s r y).pos=true
  ·rw[aB d]
  rw[aA d,R3 d,aB (by rw[m]at d |-;exact j.resolve_right d)]
 have n:lN s r y=er (oU s r y) 13 (oU s r y).pos:=by unfold lN;rw[aA g,aA j,m,e]
 rw[n,aB (by simp[er]),aA (by rw[m];exact fun d=>j (.inr d)),aA (by rw[m];exact fun d=>j (.inl d))]
end Go.Pl
namespace Go.Pl
theorem Oh{l:List Ev}{d:List Bool}:iu l d l.length=[]:=by unfold iu;rw[Fv];rfl
end Go.Pl
namespace Go.Pl
def E5(s:Bs):List Ev:=if 60000<s.length then[ln,uJ 1 s.length]else xU s
end Go.Pl
namespace Go.Pl
theorem NC(s:Bs)(p:Nat):dR s (dR s p)=dR s p:=by
 fun_induction dR s p with
 |case1 p h a b=>exact b
 |case2 p h a c b=>exact b
 |case3 p h a c=>exact NB a (by simpa using c)
 |case4 p h=>exact DV h
end Go.Pl
end
section
namespace Go.Pl
def W3(l:List Ev):Bool:=nW l&&!ND l
theorem K1(s:Bs):(xU s).length<=480072:=by
 unfold xU Rv;split
 ·decide
 split
 ·simp only[aK,aL];omega
 have:=IT (s:=s) (by omega);split
 ·rw[aC];simp only[aK,aL];omega
 omega
structure Mk where
 id:Int
 place:Int
 st:List Int
 deriving DecidableEq
structure Cu where
 tx:Bs
 place:Int
 st:List Int
 ms:List Mk
 la:Int
 deriving DecidableEq
def nB:Mk:=⟨0,0,[]⟩
theorem Mk.ext_iff{a b:Mk}:a=b↔a.id=b.id/\a.place=b.place/\a.st=b.st:=by cases a;cases b;simp
theorem Cu.ext_iff{a b:Cu}:a=b↔a.tx=b.tx/\a.place=b.place/\a.st=b.st/\a.ms=b.ms/\a.la=b.la:=by cases a;cases b;simp
def yC(l:List Mk):Nat:=(l.map fun m=>m.st.length).sum
theorem N5{l:List Mk}{i:Nat}(h:i<l.length):yC (l.take (i+1))=yC (l.take i)+(l.getD i nB).st.length:=by
 have:l.take (i+1)=l.take i++[l.getD i nB]:=by rw[List.take_succ_eq_append_getElem h];simp[List.getD,h]
 rw[this];simp[yC]
theorem N4{l:List Mk}(i:Nat):yC (l.take i)<=yC l:=by
 have:yC l=yC (l.take i)+yC (l.drop i):=by
  conv=>lhs;rw[<-List.take_append_drop i l]
  simp[yC,-List.take_append_drop]
 omega
theorem Kq:∀{l:List Mk} {m:Mk},m∈l->m.st.length<=yC l
 |x::r,m,h=>by
  have e:yC (x::r)=x.st.length+yC r:=by simp[yC]
  rcases eA.1 h with rfl|h
  ·omega
  have:=Kq h;omega
def VU(c:Cu):Nat:=c.tx.length+c.st.length+(c.ms.length+yC c.ms)
def Ia(l:List Ev)(i:Int):Int:=if 0<=i/\i<l.length/\(l.getD i.toNat ec).kind=6 then lz l i.toNat i.toNat else -1
theorem Nn{l:List Ev}{i:Int}:Ia l i<l.length:=by
 unfold Ia;split
 ·have:=yw (l:=l) (i:=i.toNat) i.toNat;omega
 omega
theorem FJ{l:List Ev}:(mn l).length=l.length:=lC
def Ul(l:List Ev)(a at_:Int):Bool:=decide (0<=Ia l a)&&(decide (Ia l a<=at_)&&decide (at_<=(mn l).getD (Ia l a).toNat 0))
theorem Q1{l:List Ev}{b a:Int}:Ul l b a=true↔0<=Ia l b/\Ia l b<=a/\a<=(mn l).getD (Ia l b).toNat 0:=by unfold Ul;simp only[aD,aE]
def DG(l:List Ev)(st:List Int)(n:Nat):Prop:=∀i,i<n->(0<=st.getD i 0/\st.getD i 0<l.length)/\(l.getD (st.getD i 0).toNat ec).kind=6/\(0<i->Ul l (st.getD (i-1) 0) (st.getD i 0)=true)
theorem DG.step{l:List Ev}{st:List Int}{n:Nat}(h:DG l st n)(b:0<=st.getD n 0/\st.getD n 0<l.length)(c:(l.getD (st.getD n 0).toNat ec).kind=6)(d:0<n->Ul l (st.getD (n-1) 0) (st.getD n 0)=true):DG l st (n+1):=fun i e=>by
 rcases aU i n with a|a
 ·exact h i a
 obtain rfl:i=n:=by omega
 exact⟨b,c,d⟩
def Fit(l:List Ev)(at_:Int)(st:List Int):Prop:=(0<=at_/\at_<l.length)/\st.length<=6/\DG l st st.length/\(st.length=0\/Ul l (st.getD (st.length-1) 0) at_=true)
noncomputable instance {l:List Ev} {a:Int} {st:List Int}:Decidable (Fit l a st):=Classical.propDecidable _
def qt(ms:List Mk)(i:Nat):Int:=if i=0 then 0 else(ms.getD (i-1) nB).id
def x9(l:List Ev)(c:Cu)(n:Nat):Prop:=∀i,i<n->(qt c.ms i+1<=(c.ms.getD i nB).id/\(c.ms.getD i nB).id<=c.la)/\Fit l (c.ms.getD i nB).place (c.ms.getD i nB).st
theorem x9.step{l:List Ev}{c:Cu}{n:Nat}(h:x9 l c n)(b:qt c.ms n+1<=(c.ms.getD n nB).id/\(c.ms.getD n nB).id<=c.la)(d:Fit l (c.ms.getD n nB).place (c.ms.getD n nB).st):x9 l c (n+1):=fun i e=>by
 rcases aU i n with a|a
 ·exact h i a
 obtain rfl:i=n:=by omega
 exact⟨b,d⟩
theorem x9.pos{l:List Ev}{c:Cu}:∀{n:Nat},x9 l c n->0<=qt c.ms n
 |0,_=>by unfold qt;rw[aB rfl];omega
 |n+1,h=>by have a:=x9.pos (n:=n) fun i d=>h i (by omega);have b:=(h n (by omega)).1.1;unfold qt;rw[aA (by omega),Nat.add_sub_cancel];omega
theorem x9.le{l:List Ev}{c:Cu}{n:Nat}(h:x9 l c n)(a:0<=c.la):qt c.ms n<=c.la:=by
 unfold qt;split
 ·exact a
 exact(h (n-1) (by omega)).1.2
theorem Ik{ms:List Mk}{i:Nat}:qt ms (i+1)=(ms.getD i nB).id:=by unfold qt;rw[aA (by omega),Nat.add_sub_cancel]
def sH(l:List Ev)(c:Cu):Prop:=Fit l c.place c.st/\(0<=c.la/\c.la<=4294967295)/\c.ms.length<=10/\x9 l c c.ms.length
noncomputable instance {l:List Ev} {c:Cu}:Decidable (sH l c):=Classical.propDecidable _
theorem A2{l:List Ev}(h:nW l=true){i:Nat}(k:i<l.length)(j:(l.getD i ec).kind=6):0<=lz l i i:=by
 unfold nW at h;rw[aD]at h;by_cases hd:lz l i i<0
 ·rw[A1 j hd _ k]at h;exact absurd h.2 (by decide)
 omega
def Q7(l:List Ev)(st:List Int)(i:Nat):Int:=if i=0 then 0 else Ia l (st.getD (i-1) 0)
def Sh(l:List Ev)(st:List Int)(i:Nat):Int:=if i=0 then(l.length:Int)-1 else(mn l).getD (Ia l (st.getD (i-1) 0)).toNat 0
theorem QJ{l:List Ev}(b:eQ l=true){k:Nat}(a:k<l.length):(mn l).getD k 0<l.length:=by
 rw[zh b a];split
 ·exact Int.lt_of_not_ge fun h=>by have c:=Di (l:=l) _ k 0 (aN _) (by omega);omega
 omega
theorem Ss{l:List Ev}(b:eQ l=true)(e:nW l=true){st:List Int}{n:Nat}(h:DG l st n):0<=Q7 l st n/\Q7 l st n<l.length/\Sh l st n<l.length:=by
 unfold Q7 Sh;have m:=tz b;by_cases a:n=0
 ·rw[aB a,aB a];omega
 rw[aA a,aA a];obtain⟨⟨f,g⟩,c,_⟩:=h (n-1) (by omega);have o:Ia l (st.getD (n-1) 0)=lz l (st.getD (n-1) 0).toNat (st.getD (n-1) 0).toNat:=by unfold Ia;rw[aB ⟨f,g,c⟩]
 have p:=A2 e (i:=(st.getD (n-1) 0).toNat) (by omega) c;have j:=Nn (l:=l) (i:=st.getD (n-1) 0);refine⟨by omega,j,QJ b (by omega)⟩
theorem NM{l:List Ev}(c:eQ l=true)(d:nW l=true){st:List Int}{n:Nat}(h:DG l st n){a:Int}:(Q7 l st n<=a/\a<=Sh l st n)↔((0<=a/\a<l.length)/\(0<n->Ul l (st.getD (n-1) 0) a=true)):=by
 obtain⟨e,f,g⟩:=Ss c d h;rw[Q1];unfold Q7 Sh at *;by_cases b:n=0
 ·subst b;simp only[dy]at *;constructor
  ·intro h;exact⟨by omega,fun h=>absurd h (fU _)⟩
  intro h;omega
 rw[aA b]at *;constructor
 ·intro h;exact⟨by omega,fun _=>⟨by omega,by omega,by omega⟩⟩
 intro h;have:=h.2 (by omega);omega
theorem NZ{l:List Ev}{st:List Int}{i:Nat}(a:0<=st.getD i 0/\st.getD i 0<l.length)(b:(l.getD (st.getD i 0).toNat ec).kind=6):Q7 l st (i+1)=lz l (st.getD i 0).toNat (st.getD i 0).toNat:=by unfold Q7 Ia;rw[aA (by omega),Nat.add_sub_cancel,aB ⟨a.1,a.2,b⟩]
theorem NG{l:List Ev}(c:eQ l=true)(d:nW l=true){st:List Int}{i:Nat}(a:0<=st.getD i 0/\st.getD i 0<l.length)(b:(l.getD (st.getD i 0).toNat ec).kind=6):Sh l st (i+1)=if ie (l.getD (lz l (st.getD i 0).toNat (st.getD i 0).toNat).toNat ec).kind then yK l (lz l (st.getD i 0).toNat (st.getD i 0).toNat).toNat 0 else -1:=by have e:=A2 d (i:=(st.getD i 0).toNat) (by omega) b;have f:=yw (l:=l) (i:=(st.getD i 0).toNat) (st.getD i 0).toNat;unfold Sh Ia;rw[aA (by omega),Nat.add_sub_cancel,aB ⟨a.1,a.2,b⟩,zh c (by omega)]
theorem QO{l:List Ev}(j:eQ l=true)(k:nW l=true){st:List Int}{a:Int}(i:st.length<=6)(h:DG l st st.length):(Q7 l st st.length<=a/\a<=Sh l st st.length)↔Fit l a st:=by
 rw[NM j k h];constructor
 ·rintro⟨d,e⟩;exact⟨d,i,h,by rcases dO st.length with b|b;exact .inl b;exact .inr (e b)⟩
 rintro⟨d,_,_,e⟩;exact⟨d,fun b=>e.resolve_left (by omega)⟩
theorem Vc{p:Nat}:eQ [ln,uJ 1 p]=true/\nW [ln,uJ 1 p]=true/\HT [ln,uJ 1 p]:=by have h:=vr (n:=p) (m:=[ln]) zR xd (c:=1) (by decide) (aN _);exact⟨h.nd,h.td,h.sz⟩
theorem UQ(s:Bs):eQ (E5 s)=true/\nW (E5 s)=true/\HT (E5 s):=by
 unfold E5;split
 ·exact Vc
 have:=OZ (s:=s);exact⟨this.nd,this.td,this.sz⟩
theorem Ru(s:Bs):(E5 s).length<=480072:=by
 unfold E5;split
 ·simp
 exact K1 s
theorem LS{p:Nat}{a:Int}{st:List Int}:Fit [ln,uJ 1 p] a st↔(0<=a/\a<2)/\st=[]:=by
 constructor
 ·intro h;obtain⟨b,j,e,k⟩:=h;refine⟨b, ?_⟩;rcases st with _|⟨x,r⟩
  ·rfl
  exfalso;obtain⟨⟨g,d⟩,c,_⟩:=e 0 (by simp);simp only[fW]at g d c;have:x=0\/x=1:=by simp only[aK,aL]at d;omega
  rcases this with rfl|rfl
  ·simp[ln]at c
  simp[uJ]at c
 rintro⟨b,rfl⟩;exact⟨b,by simp,fun i f=>absurd f (aT _),.inl rfl⟩
theorem OY{s:Bs}(h:60000<s.length):∃p:Nat,xU s=[ln,uJ 1 p]:=by refine⟨60000, ?_⟩;unfold xU Rv;rw[aB (by omega)]
theorem LO(c:Cu):sH (E5 c.tx) c↔sH (xU c.tx) c:=by
 unfold E5;split
 ·rename_i h;obtain⟨p,e⟩:=OY h;rw[e];unfold sH x9;simp only[LS]
 exact Iff.rfl
end Go.Pl
end
section
namespace Go.Vg
variable[Go.Vg.df]
open Go.Pl
def kD(m:Mk):List SV:=[.i .i64 m.id,.i .i64 m.place,.fs 1 (m.st.map dC)]
theorem lP{l m:List Mk}:l.map kD=m.map kD↔l=m:=map_inj fun a b h=>by cases a;cases b;simp only[kD,dg,SV.i.injEq,SV.fs.injEq,cP,dD,gT]at h;simp only[Mk.mk.injEq];exact h
def WY(a:List Mk)(i:Nat):SV:=if i<a.length then .fs 1 ((a.getD i nB).st.map dC)else .cQ
theorem uh{a:List Mk}{i:Nat}(h:i<a.length):WY a i=.fs 1 ((a.getD i nB).st.map dC):=aB h
theorem FT(a:List Mk)(i:Nat):(a.map kD).getD i [.i .i64 0,.i .i64 0,.cQ]=[.i .i64 (a.getD i nB).id,.i .i64 (a.getD i nB).place,WY a i]:=by
 unfold WY;split
 ·rename_i h;simp only[aG,cu,aS h,Option.map_some,fK,kD]
 rename_i h;simp only[aG,cu,cw (Nat.le_of_not_lt h),Option.map_none,Option.getD_none,nB]
def MH(a:List Mk)(i j:Nat):List SV:=if j<i then kD (a.getD j nB)else[.i .i64 0,.i .i64 0,.cQ]
theorem Kp{a:List Mk}{i j:Nat}:(MH a i j).length=3:=by unfold MH;split<;>rfl
theorem N3{a:List Mk}{i j:Nat}:eJ (MH a i j)=true:=by unfold MH;split<;>rfl
theorem Pt{μ:Nat->Nat}{a:List Mk}{i n:Nat}{f:Nat->List SV}(c:∀j,f j=if j=i then kD (a.getD i nB)else MH a i j):nz μ (.row false 3 n (MH a (i+1))) (.row false 3 n f):=by
 refine bM fun j d=>?_;rw[c j,e8 N3];unfold MH;by_cases h:j=i
 ·subst h;rw[aB rfl,aB (by omega)]
 rw[aA h];by_cases b:j<i
 ·rw[aB b,aB (by omega)]
 rw[aA b,aA (by omega)]
theorem MC{μ:Nat->Nat}{a:List Mk}{n:Nat}:nz μ (.row false 3 n (MH a 0)) (.row false 3 n fun _=>[.i .i64 0,.i .i64 0,.cQ]):=bM fun j b=>by rw[e8 N3];unfold MH;rw[aA (aT _)]
theorem MD{μ:Nat->Nat}{a:List Mk}:nz μ (.row false 3 a.length (bT kD nB a)) (.row false 3 a.length (MH a a.length)):=bM fun j b=>by unfold MH;rw[aB b,e8 (show eJ (bT kD nB a j)=true from rfl)];rfl
theorem Lb{a:List Mk}{i:Nat}:bT kD nB a i=[.i .i64 (a.getD i nB).id,.i .i64 (a.getD i nB).place,.fs 1 ((a.getD i nB).st.map dC)]:=id rfl
theorem Lg{μ:Nat->Nat}{r:Bool}{sz n:Nat}{a:List Mk}:SO.bP μ (.row r sz n (bT kD nB a))=.row r sz n (bT kD nB a):=EH fun _=>rfl
theorem Sw(m:Mk):(⟨m.id,m.place,m.st⟩:Mk)=m:=id rfl
theorem uB:type_of% (ai (ai @FT @Lb) (ai @Lg @Sw)):=ai (ai @FT @Lb) (ai @Lg @Sw)
end Go.Vg
end
section
namespace Go.Vg
variable[Go.Vg.df]
open Go.Pl
theorem cB{μ:Nat->Nat}{l:List (List UInt8×Int)}:nz μ (.jY l) (.jY l):=⟨id,rfl,rfl,aN _,rfl,fun i a=>absurd a (aT _)⟩
end Go.Vg
namespace Go.Vg
variable[Go.Vg.df]
open Go.Pl
end Go.Vg
namespace Go.Vg
variable[Go.Vg.df]
open Go.RowKit
end Go.Vg
end
section
namespace Go.Vg
variable[Go.Vg.df]
open Go.Proofs Go.RowKit
set_option maxRecDepth 10000
theorem jv.KN{P:Program}{f:FuncId}{args:List SV}{z:SV}(d:mK P f)(l:eJ args=true)(q:z.plain=true)(h:∀(fz:Nat->Option Obj) (w:World) (vs:Array Value),dm ⟨fun _=>none,fz⟩ args vs.toList->Calls P f vs w fun e w'=>∃v,e=.returned v/\rel ⟨fun _=>none,fz⟩ z v/\Below w.heap.size w w'):jv P f args z:=by
 refine⟨d,l,q,fun fz w vs m _ n=>(h fz w vs n).mono fun e w' ⟨v,he,p,hw⟩=>⟨v,fz,he,p,⟨hw.os,hw.tape,hw.output,hw.size,fun b d _=>hw.block b d⟩,fun _ _ h=>h,fun b o g=>?_,fun b o g=>.inl g⟩⟩;have c:=m b o g;have k:b<w.heap.size:=by
  rcases aU b w.heap.size with h|h
  ·exact h
  rw[bZ h]at c;cases c
 rw[hw.block b k,c]
theorem jv.OF{P:Program}{f:FuncId}{args:List SV}{z:SV}(c:mK P f)(j:eJ args=true)(n:z.plain=true)(h:∀(fz:Nat->Option Obj) (w:World) (vs:Array Value),(∀b o,fz b=some o->w.heap[b]?=some o)->(∀b o,df.g b=some o->w.heap[b]?=some o)->dm ⟨fun _=>none,fz⟩ args vs.toList->Calls P f vs w fun e w'=>∃v,e=.returned v/\rel ⟨fun _=>none,fz⟩ z v/\Below w.heap.size w w'):jv P f args z:=by
 refine⟨c,j,n,fun fz w vs d k l=>(h fz w vs d (fun b o e=>d b o (k b o e)) l).mono fun e w' ⟨v,he,m,hw⟩=>⟨v,fz,he,m,⟨hw.os,hw.tape,hw.output,hw.size,fun b c _=>hw.block b c⟩,fun _ _ h=>h,fun b o g=>?_,fun b o g=>.inl g⟩⟩;have a:=d b o g;have i:b<w.heap.size:=by
  rcases aU b w.heap.size with h|h
  ·exact h
  rw[bZ h]at a;cases a
 rw[hw.block b i,a]
theorem sk{P:Program}{f:FuncId}{fn:Func}(c:P.funcs[f]?=some fn)(a:fn.body.isSome=true)(b:(fn.name == "runtime.NumGoroutine")=false):mK P f:=⟨fn,c,a,b⟩
theorem Qx{σ:ey}{s:List UInt8}{k:IntKind}{c:Int}{vs:Array Value}(h:dm σ [.s s,.i k c] vs.toList):vs=#[.string ⟨s.toArray⟩,.int k c]:=by simp only[dm,rel]at h;obtain⟨v,r,e,rfl,v2,a,rfl,rfl,rfl⟩:=h;rw[<-ed];exact e
theorem Qy{σ:ey}{s t:List UInt8}{vs:Array Value}(h:dm σ [.s s,.s t] vs.toList):vs=#[.string ⟨s.toArray⟩,.string ⟨t.toArray⟩]:=by simp only[dm,rel]at h;obtain⟨v,r,e,rfl,v2,a,rfl,rfl,rfl⟩:=h;rw[<-ed];exact e
theorem yD{P:Program}{f:FuncId}{α:Type}{A:α->List SV}{p:α->Prop}{z:α->SV}(h:∀i,p i->jv P f (A i) (z i)\/yt P f (A i) (z i)):fO P f (KS A p z):=by
 intro args q y a hp;unfold KS at a;split at a
 ·rename_i b;simp only[db,eb]at a;obtain⟨rfl,rfl⟩:=a;have:=h _ hp;rw[eF b]at this;exact this
 cases a
noncomputable def IQ:PE:=KS (fun(x:List UInt8×Int)=>[.s x.1,.i .i64 x.2]) (fun x=>0<=x.2/\x.2<=9223372036854775807/\(x.1.length:Int)*x.2<=140737488355328) (fun x=>.s (Lib.repeatL x.1 x.2.toNat))
theorem Mn{s:List UInt8}{c:Int}:IQ [.s s,.i .i64 c]=some (0<=c/\c<=9223372036854775807/\(s.length:Int)*c<=140737488355328,.s (Lib.repeatL s c.toNat)):=tB (by rintro⟨a,b⟩ ⟨c,d⟩ h;simp_all) (s,c)
theorem Mo{P:Program}{f:FuncId}(k:mK P f)(h:∀(s:ByteArray) (c:Nat) (w:World),c<=9223372036854775807->s.size*c<=140737488355328 ->
  Calls P f #[.string s,.int .i64 c] w fun e w'=>e=.returned (.string ⟨(Lib.repeatL s.data.toList c).toArray⟩)/\Below w.heap.size w w'):fO P f IQ:=yD (by
 rintro⟨s,c⟩ ⟨g,i,b⟩;refine .inl (jv.KN k rfl rfl fun fz w vs d=>?_);simp only at g i b d |-
 obtain⟨n,rfl⟩:∃n:Nat,c=n:=⟨c.toNat,by omega⟩
 rw[Qx d];have j:s.length*n<=140737488355328:=fB.1 (by rw[Int.natCast_mul];exact b);refine(h ⟨s.toArray⟩ n w (by omega) (by show s.toArray.size*n<=_;rw[fQ];exact j)).mono fun e w' he=>⟨_,he.1, ?_,he.2⟩
 simp only[rel,Int.toNat_natCast])
theorem sT(c:UInt8):∀s:List UInt8,decide (0<=Lib.indexByte s c)=decide (c∈s)
 |[]=>by simp[Lib.indexByte]
 |b::l=>by
  have a:=sT c l;have d:∀l:List UInt8,-1<=Lib.indexByte l c:=by
   intro l
   induction l with
   |nil=>simp[Lib.indexByte]
   |cons b l a=>unfold Lib.indexByte;split<;>(try split)<;>omega
  have k:=d l;simp only[cZ]at a |-
  unfold Lib.indexByte;by_cases h:b=c
  ·subst h;simp
  have g:(b==c)=false:=by simp[h]
  rw[g];simp only[bU,bG];by_cases f:Lib.indexByte l c = -1
  ·have:¬c∈l:=by rw[<-a];omega
   simp[f,this];exact fun e=>h e.symm
  have i:0<=Lib.indexByte l c:=by omega
  have:c∈l:=a.1 i;have j:(Lib.indexByte l c == -1)=false:=by simp[f]
  rw[j];simp[this];omega
noncomputable def IC:PE:=KS (fun(x:List UInt8×UInt8)=>[.s x.1,.s [x.2]]) (fun _=>True) (fun x=>.b (decide (x.2∈x.1)))
theorem Me{s:List UInt8}{c:UInt8}:IC [.s s,.s [c]]=some (True,.b (decide (c∈s))):=tB (by rintro⟨a,b⟩ ⟨c,d⟩ h;simp_all) (s,c)
theorem Mf{P:Program}{f:FuncId}(b:mK P f)(h:∀(s:ByteArray) (c:UInt8) (w:World),
  Calls P f #[.string s,.string ⟨#[c]⟩] w fun e w'=>e=.returned (.bool (decide (0<=Lib.indexByte s.data.toList c)))/\w'=w):fO P f IC:=yD (by
 rintro⟨s,c⟩ _;refine .inl (jv.KN b rfl rfl fun fz w vs a=>?_);simp only at a |-
 rw[Qy a];refine(h ⟨s.toArray⟩ c w).mono fun e w' he=>⟨_,he.1, ?_,he.2▸Below.refl _ _⟩
 simp only[rel,sT])
end Go.Vg
end
section
namespace Go.Vg
variable[Go.Vg.df]
open Go.Proofs Go.RowKit
class Wx(b:Nat):Prop where
 ex:∃(o:Obj) (m:Int),df.g b=some o/\∀w:World,w.heap[b]?=some o->w.cell? ⟨b,0,none⟩=some (.int .i64 m)
theorem Dc{σ:ey}:∀{xs:List (List UInt8)} {vs:List Value},ud σ 1 (xs.map ij) vs->∀(j:Nat) x,xs[j]?=some x->vs[j]?=some (.string ⟨x.toArray⟩)
 |[],_,_,j,x,h=>by simp at h
 |y::e,vs,c,j,x,h=>by
  simp only[cC,ud,ij]at c;obtain⟨_,a,b⟩:=c;cases vs with
  |nil=>simp[dm]at a
  |cons v vs=>
   simp only[List.take_succ_cons,List.take_zero,dm,rel,dg]at a;obtain⟨d,r',⟨rfl,rfl⟩,rfl,_⟩:=a;cases j with
   |zero=>simp at h |-;rw[h]
   |succ j=>
    simp only[List.getElem?_cons_succ,List.drop_succ_cons,gb]at h b |-
    exact Dc b j x h
noncomputable def Ej:PE:=KS (fun(x:List (List UInt8)×List UInt8)=>[.fs 1 (x.1.map ij),.s x.2]) (fun x=>x.1.length<=140737488355328/\(Lib.join x.1 x.2).length<=140737488355328) (fun x=>.s (Lib.join x.1 x.2))
theorem IL{xs:List (List UInt8)}{t:List UInt8}:Ej [.fs 1 (xs.map ij),.s t]=some (xs.length<=140737488355328/\(Lib.join xs t).length<=140737488355328,.s (Lib.join xs t)):=tB (by
 rintro⟨a,b⟩ ⟨c,d⟩ h;simp only[dg,SV.fs.injEq,SV.s.injEq,cP,dD]at h;obtain⟨g,i⟩:=h;have:=List.map_inj_right (f:=ij) (fun x y e=>by simpa[ij]using e) |>.1 g
 simp_all) (xs,t)
theorem IM{P:Program}{f:FuncId}(C:mK P f)(B:∀(a:Option Addr) (c:Nat) (sep:ByteArray) (w:World),Calls P f #[.slice a 0 c,.string sep] w fun e w'=>e=.returned (.string ⟨#[]⟩)/\w'=w)(h:∀(g o c:Nat) (xs:List ByteArray) (sep:ByteArray) (w:World),(∀(j:Nat) x,xs[j]?=some x->w.cell? ⟨g,o+j,none⟩=some (.string x))->g<w.heap.size->xs.length<=140737488355328->xs.length<=c->(Lib.join (xs.map (·.data.toList)) sep.data.toList).length<=140737488355328 ->
  Calls P f #[.slice (some ⟨g,o,none⟩) xs.length c,.string sep] w fun e w'=>e=.returned (.string ⟨(Lib.join (xs.map (·.data.toList)) sep.data.toList).toArray⟩)/\Below w.heap.size w w'):fO P f Ej:=yD (by
 rintro⟨xs,t⟩ ⟨s,u⟩;refine .inl (jv.OF C (by simp[eJ,SV.plain]) rfl fun fz w vs D _ n=>?_);simp only at s u n |-
 simp only[dm,rel,List.length_map]at n;obtain⟨v,r,e,⟨a,cap,rfl,d,q⟩,v2,F,rfl,rfl,rfl⟩:=n;have ev:vs=#[.slice a xs.length cap,.string ⟨t.toArray⟩]:=by rw[<-ed];exact e
 subst ev;rcases q with q|⟨b,off,c,G,fr,rfl,i,p⟩
 ·have:xs=[]:=by simpa using q
  subst this;exact(B a cap ⟨t.toArray⟩ w).mono fun e w' he=>⟨_,he.1,by simp[rel,Lib.join,List.intercalate],he.2▸Below.refl _ _⟩
 have k:=D b _ i;have m:b<w.heap.size:=by
  rcases aU b w.heap.size with h|h
  ·exact h
  rw[bZ h]at k;cases k
 have em:(xs.map (fun l=>(⟨l.toArray⟩:ByteArray))).map (·.data.toList)=xs:=by simp[List.map_map,Function.comp_def]
 have el:(xs.map (fun l=>(⟨l.toArray⟩:ByteArray))).length=xs.length:=by simp
 have:=h b off cap (xs.map fun l=>⟨l.toArray⟩) ⟨t.toArray⟩ w (fun j x A=>by simp only[cu,cK]at A;obtain⟨y,E,rfl⟩:=A;have z:=Dc p j y E;rw[bY]at z;unfold World.cell?;simp only[k,<-z,Array.getElem?_toList];try rfl) m (by rw[el];exact s) (by rw[el];exact d) (by rw[em];exact u)
 rw[el]at this;refine this.mono fun e w' he=>⟨_,he.1, ?_,he.2⟩
 simp only[rel,em])
end Go.Vg
end
section
namespace Go.Vg
variable[Go.Vg.df]
open Go.Proofs Go.RowKit
class cS(a b:Nat):Prop where
 ex:∃oa ob:Obj,df.g a=some oa/\df.g b=some ob/\∀w:World,w.heap[a]?=some oa->w.heap[b]?=some ob->Lib.Utf8Tabs a b w
theorem TK{σ:ey}{s:List UInt8}{vs:Array Value}(h:dm σ [.s s] vs.toList):vs=#[.string ⟨s.toArray⟩]:=by simp only[dm,rel]at h;obtain⟨v,r,e,rfl,rfl⟩:=h;rw[<-ed];exact e
noncomputable def IF:PE:=KS (fun(s:List UInt8)=>[.s s]) (fun _=>True) (fun s=>.fJ [.i .i32 (Lib.decodeGo ⟨s.toArray⟩).1,.i .i64 (Lib.decodeGo ⟨s.toArray⟩).2])
theorem Mg{s:List UInt8}:IF [.s s]=some (True,.fJ [.i .i32 (Lib.decodeGo ⟨s.toArray⟩).1,.i .i64 (Lib.decodeGo ⟨s.toArray⟩).2]):=tB (by rintro a b h;simp_all) s
theorem Mh{P:Program}{f:FuncId}{a b:Nat}[cS a b](j:mK P f)(h:∀(s:ByteArray) (w:World),Lib.Utf8Tabs a b w ->
  Calls P f #[.string s] w fun e w'=>e=.returned (.tuple #[.int .i32 (Lib.decodeGo s).1,.int .i64 (Lib.decodeGo s).2])/\Below w.heap.size w w'):fO P f IF:=yD (by
 rintro s _;refine .inl (jv.OF j rfl rfl fun fz w vs _ c k=>?_);obtain⟨l,m,d,g,i⟩:=cS.ex (a:=a) (b:=b);rw[TK k];refine(h ⟨s.toArray⟩ w (i w (c a l d) (c b m g))).mono fun e w' he=>⟨_,he.1, ?_,he.2⟩
 refine⟨_,rfl, ?_⟩;simp[dm,rel])
end Go.Vg
end
section
namespace Go.Vg
variable[Go.Vg.df]
open Go.Pl
def VG(te:TE)(k pl:Nat)(rs:List ResultVar)(Q:SV->dZ->Prop)(st:St):Prop:=∃Z C,Q Z C/\LK te k pl rs Z C st
theorem gQ.Xs{cf:Cf}(e:cf.ok){f:FuncId}{fn:Func}{c:Code}(B:cf.P.funcs[f]?=some fn)(y:fn.body=some c)(b:(fn.name == "runtime.NumGoroutine")=false)(j:fn.ntmps=cf.nt){args:List SV}{pre:dZ}(hlen:args.length<=cf.nt)(D:cf.k<=pre.length){rs:List ResultVar}(g:fn.results.toList=rs){Q:SV->dZ->Prop}(n:Nat)(h:vc cf (VG cf.te cf.k pre.length rs Q) n [.code c] ⟨entry 0 args,pre⟩):gQ cf.P f cf.k args pre Q:=by refine gQ.WC e B y b j hlen D g (fun A σ st a w i _ u m=>?_) n h;obtain⟨Z,C,x,l,⟨p,q⟩,r,k,s,t⟩:=u;rw[<-g]at k;obtain⟨z,v,G,F,E⟩:=qb (P:=cf.P) e.te m k;subst G;exact⟨Z,v,C,σ.yp (dX l st.ctx.length),x,F,(lb _ _ _ _).1 E,Rel.yp (st':=⟨[],C⟩) l p q r trivial i m,s,t⟩
theorem eS.WT{P:Program}{f:FuncId}{k:Nat}{a:List SV}{pre:dZ}{Q:SV->dZ->Prop}(m:gQ P f k a pre Q)(l:List Nat){args:List SV}{kk:Nat}{st:St}{K:Sl (SV×St)}(d:hZ (dX l st.ctx.length) a=args)(h:jx (dX l st.ctx.length) st.ctx l pre)(i:l.Nodup)(j:da k pre)(e:(l.drop k).all (fun g=>decide (kk<=g))=true)(b:iI (l.drop k) (lh l pre) 0 st.ctx)(n:∀z c,Q z c->K.f (z.bP (dX l st.ctx.length),⟨lZ (l.drop k) st.env,lB (dX l st.ctx.length) l pre c st.ctx⟩)):eS P f args kk st K:=by refine qm.of m l d.symm h (.inr i) j e (.inr i) b ?_;exact n
theorem DA{P:Program}{te:TE}{wr:Bool}{nt:Nat}{pt:PT}{st:St}{K:Sl St}{d:Tmp}{want:Bool}{o:Oper}(h:look st.env d=.b want):sd true P te wr nt pt (some d) want st o K=pw P te wr nt pt false true st o K:=by rw[Bo,h,uN];cases want<;>simp
theorem Dz{P:Program}{te:TE}{wr:Bool}{nt:Nat}{pt:PT}{st:St}{K:Sl St}{d:Tmp}{want:Bool}{o:Oper}(h:look st.env d=.b (!want)):sd true P te wr nt pt (some d) want st o K=gk nt st o.dst (.gd false (.b false)) K:=by rw[Bo,h,uN];cases want<;>simp
theorem Dy{P:Program}{te:TE}{wr:Bool}{nt:Nat}{pt:PT}{st:St}{K:Sl St}{d:Tmp}{want:Bool}{o:Oper}(h:look st.env d=.gd false (.b false)):sd true P te wr nt pt (some d) want st o K=gk nt st o.dst (.gd false (.b false)) K:=by rw[Bo,h,vV];simp
def iF(s:Bs)(r:Rd)(fr:Bool)(la:Int):dZ:=[some (.gA false [.s s,.i .i64 (r.pos:Nat),.ew 1 0 r.ev.length,.ew 2 0 r.ev.length,.mp 3,.ew 4 0 r.hd.length,.i .i64 (r.dp:Nat),.i .i64 r.cd,.i .i64 (r.pl:Nat),.b fr,.i .i64 la]),some (.row false 8 r.ev.length (bT jO ec r.ev)),some (.row false 1 r.ev.length (bT mL false r.dn)),some (.jY (xL r.ev r.bs)),some (.row false 2 r.hd.length (bT kl lO r.hd))]
def mg(P:Program)(f:FuncId)(s:Bs)(fr:Bool)(la:Int)(args:List SV)(r r':Rd):Prop:=gQ P f 1 (.ptr 0 0 0::args) (iF s r fr la) fun z c=>z=.b (decide (r'.cd=0))/\c=iF s r' fr la
end Go.Vg
namespace Go.Vg
variable[Go.Vg.df]
open Go.Pl
def xI(e:Bs×Bool):List SV:=[.s e.1,.b e.2]
theorem FU(a:List (Bs×Bool))(i:Nat):(a.map xI).getD i [.s [],.b false]=[.s (a.getD i ([],false)).1,.b (a.getD i ([],false)).2]:=getD_map xI a i ([],false)
theorem Lc{a:List (Bs×Bool)}{i:Nat}:bT xI ([],false) a i=[.s (a.getD i ([],false)).1,.b (a.getD i ([],false)).2]:=id rfl
theorem Lh{μ:Nat->Nat}{r:Bool}{sz n:Nat}{a:List (Bs×Bool)}:SO.bP μ (.row r sz n (bT xI ([],false) a))=.row r sz n (bT xI ([],false) a):=EH fun _=>rfl
theorem ul:type_of% (ai @FU (ai @Lc @Lh)):=ai @FU (ai @Lc @Lh)
def fk(s:Bs)(r:Rd)(a:Int)(h:Int):dZ:=[some (.gA false [.s s,.i .i64 a,.ew 1 0 r.ev.length,.i .i64 r.cd,.i .i64 (r.pl:Nat),.i .i64 (r.dp:Nat),.ew 2 0 (iu r.ev r.dn r.bs).length,.ew 3 0 r.hd.length,.i .i64 h]),some (.row false 8 r.ev.length (bT jO ec r.ev)),some (.row false 2 (iu r.ev r.dn r.bs).length (bT xI ([],false) (iu r.ev r.dn r.bs))),some (.row false 2 r.hd.length (bT kl lO r.hd))]
def mI(P:Program)(f:FuncId)(s:Bs)(args:List SV)(d:Int)(r r':Rd):Prop:=gQ P f 1 (.ptr 0 0 0::args) (fk s r (r.pos:Nat) d) fun z c=>∃(a b:Int),(r'.cd=0->a=((r'.pos:Nat):Int))/\z=.fJ []/\c=fk s r' a b
end Go.Vg
end
section
namespace Go.Vg
variable[Go.Vg.df]
open Go.Pl in
def Mt(s:Bs)(r:Rd)(fr:Bool)(la:Int)(t:dZ):dZ:=some (.gA false [.s s,.i .i64 (r.pos:Nat),.ew 1 0 r.ev.length,.ew 2 0 r.ev.length,.mp 3,.ew 4 0 r.hd.length,.i .i64 (r.dp:Nat),.i .i64 r.cd,.i .i64 (r.pl:Nat),.b fr,.i .i64 la])::some (.row false 8 r.ev.length (bT jO ec r.ev))::some (.row false 1 r.ev.length (bT mL false r.dn))::some (.jY (xL r.ev r.bs))::some (.row false 2 r.hd.length (bT kl lO r.hd))::t
open Go.Pl in
def Qu(s:Bs)(r:Rd)(a:Int)(b:Int)(t:dZ):dZ:=some (.gA false [.s s,.i .i64 a,.ew 1 0 r.ev.length,.i .i64 r.cd,.i .i64 (r.pl:Nat),.i .i64 (r.dp:Nat),.ew 2 0 (iu r.ev r.dn r.bs).length,.ew 3 0 r.hd.length,.i .i64 b])::some (.row false 8 r.ev.length (bT jO ec r.ev))::some (.row false 2 (iu r.ev r.dn r.bs).length (bT xI ([],false) (iu r.ev r.dn r.bs)))::some (.row false 2 r.hd.length (bT kl lO r.hd))::t
theorem YC:type_of% (ai (ai @Qu.eq_1 @Mt.eq_1) (ai @fk.eq_1 @iF.eq_1)):=(ai (ai @Qu.eq_1 @Mt.eq_1) (ai @fk.eq_1 @iF.eq_1))
theorem Ya:type_of% (ai @DA (ai @Dz @Dy)):=(ai @DA (ai @Dz @Dy))
theorem Yb:type_of% (ai dQ ej):=(ai dQ ej)
theorem Yc:type_of% (ai @RV (ai @Jq @Jr)):=(ai @RV (ai @Jq @Jr))
theorem Yd:type_of% (ai YC (ai (ai @iD.eq_1 (ai @iD.eq_2 @iD.eq_3)) (ai (ai @du @dU) (ai @dD @cP)))):=(ai YC (ai (ai @iD.eq_1 (ai @iD.eq_2 @iD.eq_3)) (ai (ai @du @dU) (ai @dD @cP))))
theorem Ye:type_of% (ai YC (ai (ai (ai @jx.eq_1 @jx.eq_2) (ai @jx.eq_3 @du)) (ai (ai @dU @dD) (ai @List.length_cons.{0} @List.length_nil.{0})))):=(ai YC (ai (ai (ai @jx.eq_1 @jx.eq_2) (ai @jx.eq_3 @du)) (ai (ai @dU @dD) (ai @List.length_cons.{0} @List.length_nil.{0}))))
theorem Yf:type_of% (ai (ai (ai (ai @hZ.eq_1 @hZ.eq_2) (ai @SV.bP.eq_1 @SV.bP.eq_2)) (ai (ai @SV.bP.eq_3 @SV.bP.eq_4) (ai @SV.bP.eq_5 @SV.bP.eq_6))) (ai (ai (ai @SV.bP.eq_7 @SV.bP.eq_8) (ai @SV.bP.eq_9 @SV.bP.eq_10)) (ai (ai @SV.bP.eq_11 @SV.bP.eq_12) (ai @SV.bP.eq_13 (ai @SV.bP.eq_14 @dX.eq_1))))):=(ai (ai (ai (ai @hZ.eq_1 @hZ.eq_2) (ai @SV.bP.eq_1 @SV.bP.eq_2)) (ai (ai @SV.bP.eq_3 @SV.bP.eq_4) (ai @SV.bP.eq_5 @SV.bP.eq_6))) (ai (ai (ai @SV.bP.eq_7 @SV.bP.eq_8) (ai @SV.bP.eq_9 @SV.bP.eq_10)) (ai (ai @SV.bP.eq_11 @SV.bP.eq_12) (ai @SV.bP.eq_13 (ai @SV.bP.eq_14 @dX.eq_1)))))
theorem Yg:type_of% (ai (ai @forall_const.{0} @forall_const.{1}) (ai @implies_true.{0} @implies_true.{1})):=(ai (ai @forall_const.{0} @forall_const.{1}) (ai @implies_true.{0} @implies_true.{1}))
def kq:List (List Tmp)->Nat->List Tmp
 |[],_=>[]
 |e::r,i=>if i=0 then e else kq r (i-1)
theorem Kb{i:Nat}{e:List Tmp}{r:List (List Tmp)}:kq (e::r) i=if i=0 then e else kq r (i-1):=id rfl
noncomputable def gC{α:Type}(g:α->List SV×Prop×SV):PE:=KS (fun x=>(g x).1) (fun x=>(g x).2.1) fun x=>(g x).2.2
abbrev ptr(z:PE){α:Type}{g:α->List SV×Prop×SV}(_:z=gC g)(x:α):Prop×SV:=(g x).2
theorem X1:type_of% (ai (ai XV XT) (ai Yg (ai @Kb (ai @ptr.eq_1 YC)))):=ai (ai XV XT) (ai Yg (ai @Kb (ai @ptr.eq_1 YC)))
theorem X0:type_of% (ai X1 Yb):=ai X1 Yb
theorem X9:type_of% (ai XC (ai Ya Yc)):=ai XC (ai Ya Yc)
theorem pn{P:Program}:mJ P []:=trivial
theorem fO.c{P:Program}{f:FuncId}{g:PE}{l:List (FuncId×PE)}(h:fO P f g)(r:mJ P l):mJ P ((f,g)::l):=⟨h,r⟩
theorem fO.d{P:Program}{f:FuncId}{g:PE}(h:fO P f g):mJ P [(f,g)]:=⟨h,trivial⟩
end Go.Vg
end
section
namespace Go.Pl
theorem Yh:type_of% (ai (ai (ai @Go.Vg.Qu.eq_1 @Go.Vg.Mt.eq_1) (ai @Go.Vg.fk.eq_1 @Go.Vg.iF.eq_1)) (ai (ai @er.eq_1 @atR.eq_1) (ai @bB.eq_1 @cY.eq_1))):=(ai (ai (ai @Go.Vg.Qu.eq_1 @Go.Vg.Mt.eq_1) (ai @Go.Vg.fk.eq_1 @Go.Vg.iF.eq_1)) (ai (ai @er.eq_1 @atR.eq_1) (ai @bB.eq_1 @cY.eq_1)))
end Go.Pl
end
