/- Own text: part VAM. -/
import Derived.Test.YtgippllfnmdnpaaGreatDoorVAL
import Derived.Test.YtgippllfnmdnpaaGreatDoorVAK
import Derived.Test.YtgippllfnmdnpaaGreatDoorVAC
set_option linter.all false
section
namespace Go.Pl
def jL(l:List Ev)(t:Bs):Nat->Int
 |0 => -1
 |i+1=>if(l.getD i ec).kind=2 then -1 else if(l.getD i ec).kind≠6/\(l.getD i ec).anchor≠[]/\(l.getD i ec).anchor=t then(i:Int)else jL l t i
theorem qW{e:Ev}(h:kz e=true)(b:e.anchor≠[]):ie e.kind=true/\e.kind≠6:=by
 by_cases a:e.kind=3\/e.kind=4\/e.kind=5
 ·rcases a with a|a|a<;>rw[a]<;>exact⟨rfl,by decide⟩
 simp[kz,b,a]at h
theorem zF{l:List Ev}(c:eQ l=true){t:Bs}:∀i,i<=l.length->0<=jL l t i->ie (l.getD (jL l t i).toNat ec).kind=true
 |0,_,h=>by simp[jL]at h
 |i+1,d,h=>by
  simp only[jL]at h |-
  split
  ·rename_i a;rw[aB a]at h;omega
  rename_i a;rw[aA a]at h;split
  ·rename_i b;exact(qW (sr c (by omega)) b.2.1).1
  rename_i b;rw[aA b]at h;exact zF c i (by omega) h
theorem Ci{l:List Ev}(g:eQ l=true){i:Nat}(p:i<l.length):∀k,k<=i->lz l i k=if jL l (l.getD i ec).text k<0 then -1 else if yK l (jL l (l.getD i ec).text k).toNat 0<0\/yK l (jL l (l.getD i ec).text k).toNat 0>i then -1 else jL l (l.getD i ec).text k
 |0,_=>by simp[lz,jL]
 |k+1,q=>by
  have f:=sr g (show k<l.length by omega);simp only[lz];by_cases c:(l.getD k ec).kind=2
  ·have e:jL l (l.getD i ec).text (k+1) = -1:=by simp only[jL];rw[aB c]
   rw[aB c,e,aB (by omega)]
  rw[aA c];by_cases d:(l.getD k ec).anchor≠[]/\(l.getD k ec).anchor=(l.getD i ec).text
  ·have j:=qW f d.1;have e:jL l (l.getD i ec).text (k+1)=k:=by simp only[jL];rw[aA c,aB ⟨j.2,d⟩]
   rw[aB ⟨j.1,d⟩,e,aA (show ¬((k:Nat):Int)<0 by omega),Int.toNat_natCast]
  have e:jL l (l.getD i ec).text (k+1)=jL l (l.getD i ec).text k:=by simp only[jL];rw[aA c,aA (fun h=>d h.2)]
  rw[aA (fun h=>d h.2),e];exact Ci g p k (by omega)
def xe(l:List Ev):Nat->Bool
 |0=>true
 |i+1=>xe l i&&!(decide ((l.getD i ec).kind=6)&&decide (lz l i i<0))
def nW(l:List Ev):Bool:=eQ l&&xe l l.length
theorem A1{l:List Ev}{i:Nat}(a:(l.getD i ec).kind=6)(hd:lz l i i<0):∀n,i<n->xe l n=false
 |0,h=>absurd h (aT _)
 |n+1,h=>by
  simp only[xe];by_cases e:i=n
  ·subst e;rw[aJ a,aJ hd];simp
  rw[A1 a hd n (by omega)];rfl
theorem xJ:∀(l:List Ev) (d:Int) (o:iB),oY l d o=true->∀i,i<l.length->(l.getD i ec).kind=10->i+1=l.length
 |[],_,_,_,i,h,_=>by simp at h
 |e::r,d,o,h,i,c,a=>by
  simp only[oY,aD]at h;obtain⟨f,b⟩:=h;cases i with
  |zero=>
   simp only[fW]at a;rw[aB a]at b;rw[gg.1 b];rfl
  |succ i=>
   simp only[List.getD_cons_succ]at a;split at b
   ·rw[gg.1 b]at c;simp at c
   split at b
   ·simp only[aD]at b;rw[gg.1 b.1]at c;simp at c
   simp only[aD]at b;have:=xJ r _ _ b.2 i (by simp at c;omega) a;simp only[aK];omega
theorem D6{l:List Ev}(b:eQ l=true){i:Nat}(c:i<l.length)(a:(l.getD i ec).kind=10):i+1=l.length:=by
 match l,b with
 |e::r,b=>
  simp only[eQ,aD,aE]at b;cases i with
  |zero=>simp only[fW]at a;omega
  |succ i=>have:=xJ r _ _ b.2 i (by simp at c;omega) (by simpa using a);simp only[aK];omega
def ND(l:List Ev):Bool:=l.any fun e=>decide (e.kind=10)
theorem Cv{l:List Ev}(c:eQ l=true):ND l=decide ((l.getD (l.length-1) ec).kind=10):=by
 have d:=tz c;unfold ND;rw[bO,List.any_eq_true,aE];constructor
 ·rintro⟨e,he,h⟩;obtain⟨j,b,rfl⟩:=eM.1 he;rw[aE]at h;have a:(l.getD j ec).kind=10:=by simp[List.getD,b,h]
  have:=D6 c b a;rw[show l.length-1=j by omega];exact a
 intro h;refine⟨l.getD (l.length-1) ec,kW (by omega),by rw[aE];exact h⟩
end Go.Pl
namespace Go.Pl
end Go.Pl
end
section
namespace Go.Pl
open Go.Vg (lookS updS)
structure Rd where
 pos:Nat
 ev:List Ev
 dn:List Bool
 bs:Nat
 hd:List Hd
 dp:Nat
 cd:Int
 pl:Nat
structure Pp where
 has:Bool
 an:Bs
 tg:Bs
 en:Nat
def si(l:List Ev)(b:Nat):List Nat:=(List.range l.length).filter fun i=>decide (b<=i)&&!decide ((l.getD i ec).anchor=[])
def xL(l:List Ev)(b:Nat):List (Bs×Int):=(si l b).foldl (fun m i=>updS m (l.getD i ec).anchor (i:Int)) []
def iu(l:List Ev)(d:List Bool)(b:Nat):List (Bs×Bool):=(si l b).map fun i=>((l.getD i ec).anchor,d.getD i false)
def Qq(l:List Ev)(d:List Bool)(b:Nat)(name:Bs):Bool:=(iu l d b).foldl (fun x p=>if p.1=name then p.2 else x) false
def er(r:Rd)(c:Int)(p:Nat):Rd:={ r with cd:=c,pl:=p }
def bB(r:Rd)(e:Ev)(d:Bool):Rd:={ r with ev:=r.ev++[e],dn:=r.dn++[d] }
def EZ(st:Int)(t a g:Bs):Ev:=⟨5,st,false,t,a,g,0,0⟩
def FL(t:Bs):Ev:=⟨6,0,false,t,[],[],0,0⟩
def oQ(k st:Int)(a g:Bs):Ev:=⟨k,st,false,[],a,g,0,0⟩
def Qs:Ev:=⟨7,0,false,[],[],[],0,0⟩
def cY(r:Rd)(st:Int)(t a g:Bs):Rd:=bB r (EZ st t a g) true
def atR(r:Rd)(p:Nat):Rd:={ r with pos:=p }
def ik(s:Bs)(r:Rd):Rd:=if s.length<=r.pos then er r 3 r.pos else if ib s r.pos≠0 then er r 4 r.pos else r
def cL(s:Bs)(r:Rd):Rd:=ik s (atR r (dR s r.pos))
def HX(s:Bs)(fl:Bool)(e:Nat):Bool:=gN s e||(fl&&re (bW s e))
def HO(s:Bs)(fl:Bool)(e:Nat):Nat:=if fl then dR s e else wh s e
def lq(s:Bs)(hd:List Hd)(fl:Bool)(pos:Nat)(p:Pp):Pp×Int:=
 if bW s pos=38 then
  (if(jm s pos).2.2=true/\p.an=[]then(if HX s fl (jm s pos).2.1.toNat=true then(⟨true,(jm s pos).1,p.tg,(jm s pos).2.1.toNat⟩,0)else({ p with an:=(jm s pos).1 },7))else(p,7))
 else
  (if(my s pos).2.2=true/\p.tg=[]/\HX s fl (my s pos).2.1.toNat=true then(if(B2 (my s pos).1 hd).2=true then(⟨true,p.an,(B2 (my s pos).1 hd).1,(my s pos).2.1.toNat⟩,0)else(p,15))else(p,7))
theorem sG{s:Bs}{p:Nat}(h:(my s p).2.2=true):bW s p=33/\(p:Int)+1<=(my s p).2.1/\(my s p).2.1<=s.length/\(my s p).2.1<=p+60:=by
 by_cases a:bW s p=33/\yr s p<=p+60
 ·have:=xc a.1;rw[xW a];exact⟨a.1,by simp only;omega,by simp only;omega,by simp only;omega⟩
 rw[s6 a]at h;cases h
theorem j1{s:Bs}{p:Nat}(h:(jm s p).2.2=true):(bW s p=38\/bW s p=42)/\(p:Int)+2<=(jm s p).2.1/\(jm s p).2.1<=s.length/\(jm s p).1.length<=60/\(jm s p).1≠[]:=by
 by_cases a:(bW s p=38\/bW s p=42)/\p+2<=mw s (p+1)/\mw s (p+1)<=p+61
 ·have e:p<s.length:=by
   rcases a.1 with b|b
   ·exact cE b (by decide)
   exact cE b (by decide)
  have:=r8 s (p+1) e;rw[Ky a];have d:(sub s (p+1) (mw s (p+1))).length=mw s (p+1)-(p+1):=by simp only[sub,bK,aZ];omega
  refine⟨a.1,by simp only;omega,by simp only;omega,by simp only;omega,fun c=>?_⟩;simp only at c;rw[c]at d;simp at d;omega
 rw[CX a]at h;cases h
theorem mE{s:Bs}{hd:List Hd}{fl:Bool}{pos:Nat}{p:Pp}(d:pos<=s.length)(h:(lq s hd fl pos p).2=0):pos+1<=(lq s hd fl pos p).1.en/\(lq s hd fl pos p).1.en<=s.length/\(lq s hd fl pos p).1.has=true:=by
 unfold lq at h |-
 split
 ·rename_i b;rw[aB b]at h;split
  ·rename_i a;have:=j1 a.1;rw[aB a]at h;split
   ·exact⟨by simp only;omega,by simp only;omega,rfl⟩
   rename_i c;rw[aA c]at h;simp at h
  rename_i a;rw[aA a]at h;simp at h
 rename_i b;rw[aA b]at h;split
 ·rename_i a;have:=sG a.1;rw[aB a]at h;split
  ·exact⟨by simp only;omega,by simp only;omega,rfl⟩
  rename_i c;rw[aA c]at h;simp at h
 rename_i a;rw[aA a]at h;simp at h
theorem o3{s:Bs}{fl:Bool}{e:Nat}(h:e<=s.length):e<=HO s fl e/\HO s fl e<=s.length:=by
 unfold HO;split
 ·exact⟨fq s e,ez s e h⟩
 exact⟨gY s e,gO s e h⟩
def lA(s:Bs)(pos:Nat):Bool:=decide (bW s pos=38\/bW s pos=33)
def lk(s:Bs)(hd:List Hd)(fl:Bool)(pos:Nat)(p:Pp):Nat×Pp×Int:=
 if h:lA s pos=true/\(lq s hd fl pos p).2=0 then lk s hd fl (HO s fl (lq s hd fl pos p).1.en) (lq s hd fl pos p).1
 else(pos,if lA s pos=true then((lq s hd fl pos p).1,(lq s hd fl pos p).2)else(p,0))
termination_by s.length-pos
decreasing_by
 have b:pos<s.length:=by
  have:=h.1;unfold lA at this;rcases aW this with a|a
  ·exact cE a (by decide)
  exact cE a (by decide)
 have a:=mE (cJ b) h.2;have c:=o3 (s:=s) (fl:=fl) a.2.1;omega
def kF(p:Nat):Pp:=⟨false,[],[],p⟩
def iP(s:Bs)(fl:Bool)(r:Rd):Rd:=
 if(lk s r.hd fl r.pos (kF r.pos)).2.2=0 then atR r (lk s r.hd fl r.pos (kF r.pos)).1 else er (atR r (lk s r.hd fl r.pos (kF r.pos)).1) (lk s r.hd fl r.pos (kF r.pos)).2.2 (lk s r.hd fl r.pos (kF r.pos)).1
def ia(s:Bs)(fl:Bool)(r:Rd):Pp:=(lk s r.hd fl r.pos (kF r.pos)).2.1
def km(s:Bs)(r:Rd):Rd:=if(iP s true r).cd=0/\(ia s true r).has=true then ik s (iP s true r)else iP s true r
def oP(s:Bs)(r:Rd)(has:Bool):Rd:=
 if(jm s r.pos).2.2=false then er r 7 r.pos
 else if has=true then er r 16 r.pos
 else if Qq r.ev r.dn r.bs (jm s r.pos).1=true then atR (bB r (FL (jm s r.pos).1) true) (jm s r.pos).2.1.toNat
 else er r 14 r.pos
def sv(s:Bs)(p:Nat):Bs×Nat×Int:=if bW s p=34 then nC s p else ny s p
def oR(s:Bs)(r:Rd)(p:Pp):Rd:=
 if(sv s r.pos).2.2≠0 then er r (sv s r.pos).2.2 (sv s r.pos).2.1
 else atR (cY r (if bW s r.pos=34 then 3 else 2) (sv s r.pos).1 p.an p.tg) (sv s r.pos).2.1
def E4(s:Bs)(r:Rd)(p:Pp)(n:Int)(fl:Bool):Rd:=atR (cY r 1 (AK s r.pos n fl).1 p.an p.tg) (AK s r.pos n fl).2.1
def jt(r:Rd)(k st:Int)(p:Pp)(sign:Nat):Rd:=if 40<=r.dp then er r 12 sign else{ bB r (oQ k st p.an p.tg) false with dp:=r.dp+1 }
def mH(r:Rd)(k:Nat):Rd:={ r with ev:=r.ev++[Qs],dn:=(r.dn++[true]).set k true,dp:=r.dp-1 }
def ly(s:Bs)(r:Rd)(c:Int):Rd:=if bW s r.pos=44 then atR r (r.pos+1)else if bW s r.pos=c then r else er r 11 r.pos
def qN(s:Bs)(it:Rd->Rd)(c:Int)(k:Nat)(r:Rd):Rd:=
 if(cL s r).cd≠0 then cL s r
 else if bW s (cL s r).pos=c then mH (atR (cL s r) ((cL s r).pos+1)) k
 else if(it (cL s r)).cd≠0 then it (cL s r)
 else if(cL s (it (cL s r))).cd≠0 then cL s (it (cL s r))
 else if h:(ly s (cL s (it (cL s r))) c).cd=0/\r.pos<(ly s (cL s (it (cL s r))) c).pos/\r.pos<s.length then qN s it c k (ly s (cL s (it (cL s r))) c)
 else ly s (cL s (it (cL s r))) c
termination_by s.length-r.pos
decreasing_by omega
def je(b:Int):Bool:=b==39||b==34
def oM(s:Bs)(r:Rd)(p:Pp)(c1 c2:Int):Rd:=
 if bW s r.pos=42 then oP s r p.has
 else if je (bW s r.pos)=true then oR s r p
 else if yE s r.pos true=true then E4 s r p (-1) true
 else if p.has=true/\(bW s r.pos=44\/bW s r.pos=c1\/bW s r.pos=c2)then cY r 1 [] p.an p.tg
 else er r 10 r.pos
def VB(s:Bs)(a:Rd->Rd)(r:Rd):Rd:=
 if(cL s r).cd≠0 then cL s r
 else if bW s (cL s r).pos=44\/bW s (cL s r).pos=125 then cY (cL s r) 1 [] [] []
 else a (cL s r)
def Qt(s:Bs)(a:Rd->Rd)(q:Bool)(r:Rd):Rd:=
 if bW s r.pos=58/\(gN s (r.pos+1)||re (bW s (r.pos+1))||q)=true then VB s a (atR r (r.pos+1))else cY r 1 [] [] []
def n1(s:Bs)(a:Rd->Rd)(r:Rd):Rd:=
 if(km s r).cd≠0 then km s r
 else if(oM s (km s r) (ia s true r) 125 58).cd≠0 then oM s (km s r) (ia s true r) 125 58
 else if(cL s (oM s (km s r) (ia s true r) 125 58)).cd≠0 then cL s (oM s (km s r) (ia s true r) 125 58)
 else Qt s a (je (bW s (km s r).pos)) (cL s (oM s (km s r) (ia s true r) 125 58))
def qO(s:Bs)(it:Rd->Rd)(c k:Int)(r:Rd)(p:Pp):Rd:=
 if(jt r k 6 p r.pos).cd≠0 then jt r k 6 p r.pos else qN s it c r.ev.length (atR (jt r k 6 p r.pos) (r.pos+1))
def pA(s:Bs)(a:Rd->Rd)(r:Rd)(p:Pp):Rd:=
 if bW s r.pos=91 then qO s a 93 3 r p
 else if bW s r.pos=123 then qO s (n1 s a) 125 4 r p
 else oM s r p 93 125
def yf(s:Bs)(d:Rd->Rd)(r:Rd):Rd:=if(km s r).cd≠0 then km s r else pA s d (km s r) (ia s true r)
def sW(s:Bs):Nat->Rd->Rd
 |0=>yf s id
 |d+1=>yf s (sW s d)
def oS(p:Nat):Rd:=⟨p,[],[],0,[],0,0,0⟩
end Go.Pl
namespace Go.Pl
def fM(s:Bs)(fl:Bool)(r:Rd)(p:Pp):Rd:=if(lq s r.hd fl r.pos p).2=0 then atR r (HO s fl (lq s r.hd fl r.pos p).1.en)else er r (lq s r.hd fl r.pos p).2 r.pos
end Go.Pl
namespace Go.Pl
def EO(s:Bs)(r:Rd)(fl:Bool):Bool:=decide (bW s r.pos=42)||je (bW s r.pos)||yE s r.pos fl
def vH(s:Bs)(r:Rd)(p:Pp)(n:Int)(fl:Bool):Rd:=
 if bW s r.pos=42 then oP s r p.has
 else if je (bW s r.pos)=true then oR s r p
 else if yE s r.pos fl=true then E4 s r p n fl
 else r
end Go.Pl
end
section
namespace Go.Pl
open Go.Vg (lookS updS)
theorem iG{α:Type}{l m:List α}{i:Nat}{z:α}(h:i<l.length):(l++m).getD i z=l.getD i z:=by simp only[aG,cA h]
theorem gn{α:Type}{l:List α}{x z:α}:(l++[x]).getD l.length z=x:=by simp[aG]
theorem qV{l:List Ev}{e:Ev}{b:Nat}(a:b<=l.length):si (l++[e]) b=si l b++(if e.anchor=[]then[]else[l.length]):=by
 unfold si;rw[aC,aH,List.range_succ,List.filter_append];congr 1
 ·apply List.filter_congr;intro i c;rw[iG (by simpa using c)]
 simp only[List.filter_cons,List.filter_nil,gn,aJ a,di];by_cases h:e.anchor=[]
 ·simp[h]
 simp[h]
theorem uD{l:List Ev}{b i:Nat}(h:i∈si l b):b<=i/\i<l.length/\(l.getD i ec).anchor≠[]:=by unfold si at h;rw[List.mem_filter]at h;simp only[List.mem_range,aD,aE,aR,aO]at h;exact⟨h.2.1,h.1,h.2.2⟩
theorem Fv{l:List Ev}:si l l.length=[]:=by
 unfold si;rw[List.filter_eq_nil_iff];intro i a;have:i<l.length:=by simpa using a
 simp;omega
theorem uL{α β:Type}{f g:β->α->β}:∀(l:List α) (b:β),(∀x∈l,∀b,f b x=g b x)->l.foldl f b=l.foldl g b
 |[],b,_=>rfl
 |x::r,b,h=>by rw[eI,eI,h x (List.mem_cons_self ..)];exact uL r _ fun y a=>h y (dI _ a)
theorem Of{l:List Ev}:xL l l.length=[]:=by unfold xL;rw[Fv];rfl
theorem Oe{l:List Ev}{e:Ev}{b:Nat}(c:b<=l.length):xL (l++[e]) b=if e.anchor=[]then xL l b else updS (xL l b) e.anchor l.length:=by
 unfold xL;rw[qV c,List.foldl_append];have a:(si l b).foldl (fun m i=>updS m ((l++[e]).getD i ec).anchor (i:Int)) []=(si l b).foldl (fun m i=>updS m (l.getD i ec).anchor (i:Int)) []:=
  uL _ _ fun i d m=>by rw[iG (uD d).2.1]
 rw[a];by_cases h:e.anchor=[]
 ·rw[aB h,aB h];rfl
 rw[aA h,aA h];simp only[eI,List.foldl_nil,gn]
theorem mW{l:List Ev}{d:List Bool}{e:Ev}{x:Bool}{b:Nat}(f:b<=l.length)(hd:d.length=l.length):iu (l++[e]) (d++[x]) b=if e.anchor=[]then iu l d b else iu l d b++[(e.anchor,x)]:=by
 unfold iu;rw[qV f,gx];have c:(si l b).map (fun i=>(((l++[e]).getD i ec).anchor,(d++[x]).getD i false))=(si l b).map (fun i=>((l.getD i ec).anchor,d.getD i false)):=
  fD fun i a=>by rw[iG (uD a).2.1,iG (by rw[hd];exact(uD a).2.1)]
 rw[c];by_cases h:e.anchor=[]
 ·rw[aB h,aB h];simp
 rw[aA h,aA h];simp only[cC,eO,gn];rw[<-hd,gn]
theorem xF{α:Type}[DecidableEq α](v:Int):∀(l:List (α×Int)) (k c:α),lookS (updS l k v) c=if k=c then some v else lookS l c
 |[],k,c=>rfl
 |p::r,k,c=>by
  simp only[updS];by_cases h:p.1=k
  ·rw[aB h];simp only[lookS];by_cases b:k=c
   ·rw[aB b,aB b]
   rw[aA b,aA b,aA (by rw[h];exact b)]
  rw[aA h];simp only[lookS,xF v r k c];by_cases b:p.1=c
  ·rw[aB b,aB b,aA (by rw[<-b];exact fun e=>h e.symm)]
  rw[aA b,aA b]
theorem Q8{l:List Ev}{d:List Bool}{b:Nat}{name:Bs}:(lookS (xL l b) name=none->Qq l d b name=false)/\∀k,lookS (xL l b) name=some k->0<=k/\k<l.length/\Qq l d b name=d.getD k.toNat false:=by
 unfold Qq xL iu;have key:∀(I:List Nat) (m:List (Bs×Int)) (x:Bool),(∀i∈I,i<l.length)->((lookS m name=none->x=false)/\∀k,lookS m name=some k->0<=k/\k<l.length/\x=d.getD k.toNat false) ->
   ((lookS (I.foldl (fun m i=>updS m (l.getD i ec).anchor (i:Int)) m) name=none->(I.map fun i=>((l.getD i ec).anchor,d.getD i false)).foldl (fun x p=>if p.1=name then p.2 else x) x=false)/\∀k,lookS (I.foldl (fun m i=>updS m (l.getD i ec).anchor (i:Int)) m) name=some k->0<=k/\k<l.length/\(I.map fun i=>((l.getD i ec).anchor,d.getD i false)).foldl (fun x p=>if p.1=name then p.2 else x) x=d.getD k.toNat false):=by
  intro I
  induction I with
  |nil=>intro m x _ h;exact h
  |cons i r n=>
   intro m x e h;simp only[eI,cC];apply n _ _ (fun j g=>e j (dI _ g));rw[xF];by_cases a:(l.getD i ec).anchor=name
   ·rw[aB a,aB a];refine⟨fun h=>(by cases h),fun k c=>?_⟩;simp only[db]at c;subst c;exact⟨by omega,by have:=e i (List.mem_cons_self ..);omega,by simp⟩
   rw[aA a,aA a];exact h
 exact key (si l b) [] false (fun i f=>(uD f).2.1) ⟨fun _=>rfl,fun k c=>by simp[lookS]at c⟩
end Go.Pl
namespace Go.Pl
theorem uQ{s:Bs}{p:Nat}(h:lA s p=true):p<s.length:=by
 unfold lA at h;rcases aW h with a|a
 ·exact cE a (by decide)
 exact cE a (by decide)
theorem Q2{s:Bs}{p:Nat}(h:lA s p=true)(b:¬bW s p=38):bW s p=33:=by
 unfold lA at h;rcases aW h with a|a
 ·exact absurd a b
 exact a
end Go.Pl
namespace Go.Pl
theorem HY{g f:Bool}(h:(!g&&!f)=true):(g||f)=false:=by cases g<;>cases f<;>simp_all
theorem Jw{g f:Bool}(h:(!g&&!f)=false):(g||f)=true:=by cases g<;>cases f<;>simp_all
end Go.Pl
namespace Go.Pl
theorem P4(s:Bs)(p:Nat):0<=(my s p).2.1:=by unfold my;split<;>simp
theorem EQ(s:Bs)(p:Nat):(my s p).1.length<=60:=by
 unfold my;split
 ·rename_i h;simp only[sub,bK,aZ];omega
 simp
end Go.Pl
namespace Go.Pl
theorem yZ{l:List Ev}{b m:Nat}(h:m<=l.length):si l b=si (l.take m) b++((List.range (l.length-m)).map (m+·)).filter fun i=>decide (b<=i)&&!decide ((l.getD i ec).anchor=[]):=by
 have e:l.length=m+(l.length-m):=by omega
 have c:(l.take m).length=m:=by rw[aZ];omega
 unfold si
 conv=>lhs;rw[e,List.range_add,List.filter_append]
 rw[c];congr 1;apply List.filter_congr;intro i a;have a:i<m:=by simpa using a
 have:(l.take m).getD i ec=l.getD i ec:=by simp only[aG,cH];rw[aB a]
 rw[this]
theorem Rl{l:List Ev}{d:List Bool}{b k:Nat}(f:k<l.length)(t:b<=k)(hd:d.length=l.length):iu l (d.set k true) b=if(l.getD k ec).anchor=[]then iu l d b else(iu l d b).set (si (l.take k) b).length ((l.getD k ec).anchor,true):=by
 have a:∀i,i≠k->(d.set k true).getD i false=d.getD i false:=fun i c=>by simp only[aG,gE];rw[aA (Ne.symm c)]
 have n:=yZ (l:=l) (b:=b) (m:=k+1) f;have e:(l.take k).length=k:=by rw[aZ];omega
 have q:l.take (k+1)=l.take k++[l.getD k ec]:=by rw[fR];congr 1;simp[List.getD,f]
 rw[q,qV (by rw[e];exact t),e]at n;have r:∀i∈si (l.take k) b,i≠k:=fun i c h=>by have:=(uD c).2.1;rw[e]at this;omega
 have s:∀i∈((List.range (l.length-(k+1))).map (k+1+·)).filter (fun i=>decide (b<=i)&&!decide ((l.getD i ec).anchor=[])),i≠k:=fun i c h=>by have:=(List.mem_filter.1 c).1;obtain⟨j,_,rfl⟩:=List.mem_map.1 this;omega
 unfold iu;rw[n];generalize ((List.range (l.length-(k+1))).map (k+1+·)).filter (fun i=>decide (b<=i)&&!decide ((l.getD i ec).anchor=[]))=R at *;generalize si (l.take k) b=A at *;have o:A.map (fun i=>((l.getD i ec).anchor,(d.set k true).getD i false))=A.map (fun i=>((l.getD i ec).anchor,d.getD i false)):=fD fun i c=>by rw[a i (r i c)]
 have p:R.map (fun i=>((l.getD i ec).anchor,(d.set k true).getD i false))=R.map (fun i=>((l.getD i ec).anchor,d.getD i false)):=fD fun i c=>by rw[a i (s i c)]
 by_cases h:(l.getD k ec).anchor=[]
 ·rw[aB h,aB h,dw,gx,gx,o,p]
 rw[aA h,aA h];simp only[gx,cC,eO,o,p];have g:(d.set k true).getD k false=true:=by simp[aG,gE,hd,f]
 rw[g,bS,bS,List.set_append_right _ _ (by simp)];simp
theorem Ma{l:List Ev}{d:List Bool}{b k:Nat}(c:k<l.length)(a:b<=k)(hd:d.length=l.length):iu (l++[Qs]) ((d++[true]).set k true) b=if(l.getD k ec).anchor=[]then iu l d b else(iu l d b).set (si (l.take k) b).length ((l.getD k ec).anchor,true):=by rw[List.set_append_left _ _ (by omega),mW (l:=l) (d:=d.set k true) (e:=Qs) (x:=true) (by omega) (by simp[hd]),aB (show Qs.anchor=[]from rfl),Rl c a hd]
theorem UG{l:List Ev}{d:List Bool}{b k:Nat}(e:k<l.length)(g:b<=k)(h:(l.getD k ec).anchor≠[]):(si (l.take k) b).length<(iu l d b).length:=by
 have c:=yZ (l:=l) (b:=b) (m:=k+1) e;have a:(l.take k).length=k:=by rw[aZ];omega
 have f:l.take (k+1)=l.take k++[l.getD k ec]:=by rw[fR];congr 1;simp[List.getD,e]
 rw[f,qV (by rw[a];exact g),a,aA h]at c;unfold iu;rw[List.length_map,c];simp only[aC,aH];omega
theorem Og{l:List Ev}{d:List Bool}{b:Nat}:(iu l d b).length<=l.length:=by unfold iu si;rw[List.length_map];have:=List.length_filter_le (fun i=>decide (b<=i)&&!decide ((l.getD i ec).anchor=[])) (List.range l.length);simpa using this
end Go.Pl
namespace Go.Pl
theorem UF{l:List Ev}{d:List Bool}{b k:Nat}(e:k<l.length)(g:b<=k)(h:(l.getD k ec).anchor≠[]):(iu l d b).getD (si (l.take k) b).length ([],false)=((l.getD k ec).anchor,d.getD k false):=by
 have c:=yZ (l:=l) (b:=b) (m:=k+1) e;have a:(l.take k).length=k:=by rw[aZ];omega
 have f:l.take (k+1)=l.take k++[l.getD k ec]:=by rw[fR];congr 1;simp[List.getD,e]
 rw[f,qV (by rw[a];exact g),a,aA h]at c;unfold iu;rw[c];simp[aG]
end Go.Pl
namespace Go.Pl
theorem q7{s:Bs}{p:Nat}{c:Int}(h:0<c):((if bW s p<0 then(0:Int)else bW s p)=c)=(bW s p=c):=by
 apply propext;by_cases a:bW s p<0
 ·rw[aB a];omega
 rw[aA a]
theorem Ft{l:List Ev}{d:List Bool}{b:Nat}{name:Bs}{x:Bool}{i:Nat}(h:i<(iu l d b).length):((iu l d b).drop i).foldl (fun x p=>if p.1=name then p.2 else x) x=((iu l d b).drop (i+1)).foldl (fun x p=>if p.1=name then p.2 else x) (if((iu l d b).getD i ([],false)).1=name then((iu l d b).getD i ([],false)).2 else x):=by
 have e:(iu l d b).getD i ([],false)=(iu l d b)[i]:=by simp[List.getD,h]
 rw[cz h,eI,e]
end Go.Pl
end
section
namespace Go.Pl
open Go.Vg (lookS updS)
structure Ok(s:Bs)(r:Rd):Prop where
 cd:r.cd=0
 pos:r.pos<=s.length
 dn:r.dn.length=r.ev.length
 bs:r.bs<=r.ev.length
 dp:r.dp<=40
 sz:r.ev.length<=8*r.pos+64
 hd:r.hd.length<=1048576
 pf:∀h∈r.hd,h.pre.length<=1048576
structure MG(s:Bs)(r r':Rd):Prop where
 ok:Ok s r'
 lt:r.pos<r'.pos
 pre:r.ev <+: r'.ev
 hd:r'.hd=r.hd
 bs:r'.bs=r.bs
 dp:r'.dp=r.dp
 AJ:r'.ev.length+8*r.pos<=r.ev.length+8*r'.pos
theorem Ok.size{s:Bs}{r:Rd}(h:Ok s r)(a:s.length<=1048576):r.ev.length<=8388672:=by have:=h.sz;have:=h.pos;omega
theorem Ok.at{s:Bs}{r:Rd}{q:Nat}(h:Ok s r)(b:r.pos<=q)(a:q<=s.length):Ok s (atR r q):=
 ⟨h.cd,a,h.dn,h.bs,h.dp,by have:=h.sz;simp only[atR];omega,h.hd,h.pf⟩
theorem vx{s:Bs}{r:Rd}(h:(ik s r).cd=0):ik s r=r/\r.pos<s.length/\ib s r.pos=0:=by
 unfold ik at h |-
 split
 ·rename_i a;rw[aB a]at h;simp[er]at h
 rename_i a;rw[aA a]at h;split
 ·rename_i b;rw[aB b]at h;simp[er]at h
 rename_i b;exact⟨rfl,by omega,by simpa using b⟩
theorem gm{s:Bs}{r:Rd}(h:(cL s r).cd=0):cL s r=atR r (dR s r.pos)/\dR s r.pos<s.length:=by have:=vx (s:=s) (r:=atR r (dR s r.pos)) h;exact⟨this.1,this.2.1⟩
theorem Ok.gN{s:Bs}{r:Rd}(h:Ok s r)(a:(cL s r).cd=0):Ok s (cL s r):=by rw[(gm a).1];exact h.at (fq s r.pos) (ez s r.pos h.pos)
theorem w6{s:Bs}{hd:List Hd}{fl:Bool}{pos:Nat}{p:Pp}(d:pos<=s.length) :
  pos<=(lk s hd fl pos p).1/\(lk s hd fl pos p).1<=s.length/\((lk s hd fl pos p).2.2=0->(lk s hd fl pos p).2.1.has=true->p.has=true\/pos<(lk s hd fl pos p).1)/\(p.has=true->(lk s hd fl pos p).2.2=0->(lk s hd fl pos p).2.1.has=true):=by
 fun_induction lk s hd fl pos p with
 |case1 pos p h f=>
  have b:=mE d h.2;have c:=o3 (s:=s) (fl:=fl) b.2.1;have a:=f c.2;refine⟨by omega,a.2.1,fun _ _=>.inr (by omega),fun _ e=>a.2.2.2 b.2.2 e⟩
 |case2 pos p h=>
  simp only;refine⟨aN _,d, ?_, ?_⟩
  ·split
   ·rename_i b;intro c a;exact absurd ⟨b,c⟩ h
   intro _ a;exact .inl a
  split
  ·rename_i b;intro _ c;exact absurd ⟨b,c⟩ h
  intro a _;exact a
theorem jr{s:Bs}{fl:Bool}{r:Rd}(d:r.pos<=s.length)(e:r.cd=0)(h:(iP s fl r).cd=0):∃q,iP s fl r=atR r q/\r.pos<=q/\q<=s.length/\((ia s fl r).has=true->r.pos<q)/\(lk s r.hd fl r.pos (kF r.pos)).2.2=0:=by
 have hp:=w6 (s:=s) (hd:=r.hd) (fl:=fl) (p:=kF r.pos) d;unfold iP at h |-
 split
 ·rename_i a;refine⟨_,rfl,hp.1,hp.2.1,fun c=>?_,a⟩;rcases hp.2.2.1 a c with b|b
  ·cases b
  exact b
 rename_i a;rw[aA a]at h;exact absurd h a
theorem oH{s:Bs}{r:Rd}(g:r.pos<=s.length)(f:r.cd=0)(h:(km s r).cd=0):∃q,km s r=atR r q/\r.pos<=q/\q<=s.length/\((ia s true r).has=true->r.pos<q):=by
 unfold km at h |-
 split
 ·rename_i a;rw[aB a]at h;obtain⟨q,e,b,c,d,_⟩:=jr g f a.1;rw[(vx h).1];exact⟨q,e,b,c,d⟩
 rename_i a;rw[aA a]at h;obtain⟨q,e,b,c,d,_⟩:=jr g f h;exact⟨q,e,b,c,d⟩
theorem Ok.km{s:Bs}{r:Rd}(h:Ok s r)(f:(km s r).cd=0):Ok s (km s r):=by obtain⟨q,e,c,d,_⟩:=oH h.pos h.cd f;rw[e];exact h.at c d
def hB(r:Rd)(e:Ev)(q:Nat):Rd:=atR (bB r e true) q
theorem Ok.put{s:Bs}{r:Rd}{e:Ev}{q:Nat}(h:Ok s r)(b:r.pos<q\/r.ev.length+1<=8*r.pos+64/\r.pos<=q)(a:q<=s.length):Ok s (hB r e q):=
 ⟨h.cd,a,by simp[hB,atR,bB,h.dn],by simp only[hB,atR,bB,aC];have:=h.bs;omega,h.dp,by simp only[hB,atR,bB,aC,aH];have:=h.sz;omega,h.hd,h.pf⟩
theorem w7{s:Bs}{p:Nat}(c:je (bW s p)=true)(a:(sv s p).2.2=0):p+1<(sv s p).2.1/\(sv s p).2.1<=s.length:=by
 have d:p<=s.length:=by
  unfold je at c;simp only[aV,dx]at c;rcases c with h|h
  ·exact cJ (cE h (by decide))
  exact cJ (cE h (by decide))
 unfold sv at a |-
 split
 ·rename_i b;rw[aB b]at a;have:=vN d;have:=this.2.2 a;omega
 rename_i b;rw[aA b]at a;have:=xa d;have:=this.2.2 a;omega
end Go.Pl
namespace Go.Pl
theorem w5{s:Bs}{p:Nat}{fl:Bool}(h:yE s p fl=true):gN s p=false/\¬s.getD p 0∈IR/\(bW s p=58->gN s (p+1)=false/\¬(fl=true/\re (bW s (p+1))=true)):=by
 unfold yE at h;simp only[aD,aR,aO]at h;refine⟨h.1.1,h.1.2,fun d=>?_⟩;have b:=h.2;simp only[d,eE,Bool.or_true,dQ,cX,aD,aR,bA]at b;refine⟨b.1,fun c=>?_⟩;rcases b.2 with a|a
 ·rw[c.1]at a;cases a
 rw[c.2]at a;cases a
theorem Rq{s:Bs}{p:Nat}(i:p<s.length)(h:¬s.getD p 0∈IR):re (bW s p)=false:=by
 rw[cW i];unfold re;generalize s.getD p 0=c at h |-
 have g:∀n:Nat,n<256->(UInt8.ofNat n)∈IR->¬(c.toNat:Int)=n:=fun n j hm he=>by rw[jW j]at he;rw[he]at h;exact h hm
 have a:=g 44 (by decide) (by decide);have b:=g 91 (by decide) (by decide);have d:=g 93 (by decide) (by decide);have e:=g 123 (by decide) (by decide);have f:=g 125 (by decide) (by decide);simp only[dM]at a b d e f;simp[a,b,d,e,f]
theorem OT{s:Bs}{p:Nat}{fl:Bool}(h:yE s p fl=true):p<kj s p fl:=by
 obtain⟨a,e,f⟩:=w5 h;have m:=gD a;have i:kH s p=false:=by unfold gN at a;rw[aY]at a;exact a.2
 have j:nD s p=false:=by unfold gN at a;rw[aY]at a;exact a.1
 have k:IB s p fl p=false:=by
  unfold IB;rw[Rq m e];simp only[fU,dS,Bool.and_false,Bool.false_and,cX,fT];by_cases b:bW s p=58
  ·have:=f b;rw[this.1,aJ b];cases fl
   ·rfl
   cases l:re (bW s (p+1))
   ·rfl
   exact absurd ⟨rfl,l⟩ this.2
  rw[aI b];rfl
 have g:p+1<=HQ s p fl p:=by rw[ON ⟨i,k⟩];exact OM s p fl (p+1)
 unfold kj;have key:∀q,p<q->p<EY s p q:=by
  intro q
  induction q with
  |zero=>omega
  |succ q o=>
   intro n;unfold EY;split
   ·rename_i c;rcases aU p q with d|d
    ·exact o d
    obtain rfl:p=q:=by omega
    rw[j]at c;cases c.2
   exact n
 exact key _ g
theorem Mp(s:Bs)(e:Nat)(n:Int)(fl:Bool)(L:List Pc)(h:e<=s.length):e<=(B1 s e n fl L).2/\(B1 s e n fl L).2<=s.length:=by
 fun_induction B1 s e n fl L with
 |case1 e L a d=>
  have b:=oZ a;have c:=oG s (ml s e n fl).1 fl b.2.1;have:=d c;omega
 |case2 e L a=>exact⟨aN _,h⟩
theorem C6{s:Bs}{p:Nat}{n:Int}{fl:Bool}(h:yE s p fl=true):p<(AK s p n fl).2.1/\(AK s p n fl).2.1<=s.length:=by have d:=OT h;have c:=oG s p fl (cJ (gD (w5 h).1));have e:=Mp s (kj s p fl) n fl [⟨sub s p (kj s p fl),false⟩] c;unfold AK;rw[aB h];simp only;omega
theorem I1{s:Bs}{r:Rd}{p:Pp}{c1 c2:Int}(g:r.pos<=s.length)(i:r.cd=0)(h:(oM s r p c1 c2).cd=0):∃e q,oM s r p c1 c2=hB r e q/\r.pos<=q/\q<=s.length/\(p.has=false->r.pos<q):=by
 unfold oM at h |-
 split
 ·rename_i d;rw[aB d]at h;unfold oP at h |-
  split
  ·rename_i b;rw[aB b]at h;simp[er]at h
  rename_i b;rw[aA b]at h;have hp:=j1 (by simpa using b);split
  ·rename_i a;rw[aB a]at h;simp[er]at h
  rename_i a;rw[aA a]at h;split
  ·exact⟨_,_,rfl,by omega,by omega,fun _=>by omega⟩
  rename_i c;rw[aA c]at h;simp[er]at h
 rename_i d;rw[aA d]at h;split
 ·rename_i b;rw[aB b]at h;unfold oR at h |-
  split
  ·rename_i a;rw[aB a]at h;exact absurd h a
  rename_i a;have:=w7 b (by simpa using a);exact⟨_,_,rfl,by omega,this.2,fun _=>by omega⟩
 rename_i b;rw[aA b]at h;split
 ·rename_i a;have:=C6 (n := -1) a;exact⟨_,_,rfl,by omega,this.2,fun _=>this.1⟩
 rename_i a;rw[aA a]at h;split
 ·rename_i c;exact⟨EZ 1 [] p.an p.tg,r.pos,rfl,aN _,g,fun f=>by rw[f]at c;cases c.1⟩
 rename_i c;rw[aA c]at h;simp[er]at h
theorem pQ{r:Rd}{k st:Int}{p:Pp}{sg:Nat}(h:(jt r k st p sg).cd=0):jt r k st p sg={ bB r (oQ k st p.an p.tg) false with dp:=r.dp+1 }/\r.dp<40:=by
 unfold jt at h |-
 split
 ·rename_i a;rw[aB a]at h;simp[er]at h
 exact⟨rfl,by omega⟩
theorem TR{s:Bs}{r:Rd}{c:Int}(d:r.pos<=s.length)(h:(ly s r c).cd=0):∃q,ly s r c=atR r q/\r.pos<=q/\q<=s.length:=by
 unfold ly at h |-
 split
 ·rename_i a;exact⟨r.pos+1,rfl,by omega,cE a (by decide)⟩
 rename_i a;rw[aA a]at h;split
 ·exact⟨r.pos,rfl,aN _,d⟩
 rename_i b;rw[aA b]at h;simp[er]at h
end Go.Pl
namespace Go.Pl
theorem pC{s:Bs}{it:Rd->Rd}{c:Int}{k:Nat}{r:Rd}(h:(cL s r).cd≠0):qN s it c k r=cL s r:=by rw[qN,aB h]
theorem pB{s:Bs}{it:Rd->Rd}{c:Int}{k:Nat}{r:Rd}(h:(cL s r).cd=0)(a:bW s (cL s r).pos=c):qN s it c k r=mH (atR (cL s r) ((cL s r).pos+1)) k:=by rw[qN,aA (by simpa using h),aB a]
theorem tm{s:Bs}{it:Rd->Rd}{c:Int}{k:Nat}{r:Rd}(h:(cL s r).cd=0)(a:¬bW s (cL s r).pos=c)(b:(it (cL s r)).cd≠0):qN s it c k r=it (cL s r):=by rw[qN,aA (by simpa using h),aA a,aB b]
theorem tj{s:Bs}{it:Rd->Rd}{c:Int}{k:Nat}{r:Rd}(h:(cL s r).cd=0)(a:¬bW s (cL s r).pos=c)(b:(it (cL s r)).cd=0)(d:(cL s (it (cL s r))).cd≠0):qN s it c k r=cL s (it (cL s r)):=by rw[qN,aA (by simpa using h),aA a,aA (by simpa using b),aB d]
theorem th{s:Bs}{it:Rd->Rd}{c:Int}{k:Nat}{r:Rd}(h:(cL s r).cd=0)(a:¬bW s (cL s r).pos=c)(b:(it (cL s r)).cd=0)(d:(cL s (it (cL s r))).cd=0)(e:(ly s (cL s (it (cL s r))) c).cd≠0):qN s it c k r=ly s (cL s (it (cL s r))) c:=by rw[qN,aA (by simpa using h),aA a,aA (by simpa using b),aA (by simpa using d),cV (fun h=>e h.1)]
theorem tk{s:Bs}{it:Rd->Rd}{c:Int}{k:Nat}{r:Rd}(h:(cL s r).cd=0)(d:¬bW s (cL s r).pos=c)(e:(it (cL s r)).cd=0)(f:(cL s (it (cL s r))).cd=0)(g:(ly s (cL s (it (cL s r))) c).cd=0/\r.pos<(ly s (cL s (it (cL s r))) c).pos/\r.pos<s.length):qN s it c k r=qN s it c k (ly s (cL s (it (cL s r))) c):=by
 conv=>lhs;rw[qN,aA (by simpa using h),aA d,aA (by simpa using e),aA (by simpa using f),bV g]
def kw(s:Bs)(D:Nat)(it:Rd->Rd):Prop:=∀r,Ok s r->r.dp=D->(it r).cd=0->MG s r (it r)
theorem mM{s:Bs}{it:Rd->Rd}{c:Int}{D:Nat}{r:Rd}(hit:kw s D it)(C:Ok s r)(hd:r.dp=D)(h:(cL s r).cd=0)(y:(it (cL s r)).cd=0)(p:(cL s (it (cL s r))).cd=0)(z:(ly s (cL s (it (cL s r))) c).cd=0):MG s r (ly s (cL s (it (cL s r))) c):=by
 have d:=gm h;have l:=C.gN h;have b:=hit _ l (by rw[d.1];exact hd) y;have m:=b.ok.gN p;have f:=gm p;obtain⟨q,e,u,A⟩:=TR m.pos z;have E:(cL s r).pos=dR s r.pos:=by rw[d.1];rfl
 have o:(cL s r).ev=r.ev:=by rw[d.1];rfl
 have v:(cL s r).hd=r.hd:=by rw[d.1];rfl
 have w:(cL s r).bs=r.bs:=by rw[d.1];rfl
 have x:(cL s r).dp=r.dp:=by rw[d.1];rfl
 have F:=fq s r.pos;have B:=b.lt;have a:=b.pre;have g:=b.AJ;have k:=b.hd;have i:=b.bs;have j:=b.dp;have n:=b.ok;rw[e,f.1];rw[f.1]at u;generalize it (cL s r)=t at *;have G:=fq s t.pos;rw[o]at a;simp only[atR]at u;exact⟨n.at (by omega) A,by simp only[atR];omega,a,k.trans v,i.trans w,j.trans x,by simp only[atR];rw[o]at g;omega⟩
structure W4(s:Bs)(r r':Rd):Prop where
 ok:Ok s r'
 lt:r.pos<r'.pos
 pre:r.ev <+: r'.ev
 hd:r'.hd=r.hd
 bs:r'.bs=r.bs
 dp:r'.dp+1=r.dp
 AJ:r'.ev.length+8*r.pos<=r.ev.length+8*r'.pos
theorem M5{s:Bs}{it:Rd->Rd}{c:Int}{D:Nat}(l:0<=c)(hit:kw s D it)(u:1<=D):∀(n:Nat) (k:Nat) (r:Rd),s.length-r.pos=n->Ok s r->r.dp=D->k<r.ev.length->(qN s it c k r).cd=0->W4 s r (qN s it c k r):=by
 intro n
 induction n using Nat.strongRecOn with
 |ind n q=>
 intro k r w d hd v b;by_cases h:(cL s r).cd=0
 ·by_cases f:bW s (cL s r).pos=c
  ·rw[pB h f]at b |-
   have m:=gm h;have t:=fq s r.pos;have hp:=cE f l;rw[m.1]at hp |-
   have p:=d.sz;simp only[atR]at hp;refine⟨⟨d.cd, ?_, ?_, ?_, ?_, ?_,d.hd,d.pf⟩, ?_, ?_,rfl,rfl, ?_, ?_⟩
   ·simp only[mH,atR];omega
   ·simp[mH,atR,d.dn]
   ·simp only[mH,atR,aC];have:=d.bs;omega
   ·simp only[mH,atR];have:=d.dp;omega
   ·simp only[mH,atR,aC,aH];omega
   ·simp only[mH,atR];omega
   ·exact ea _ _
   ·simp only[mH,atR];omega
   simp only[mH,atR,aC,aH];omega
  by_cases g:(it (cL s r)).cd=0
  ·by_cases i:(cL s (it (cL s r))).cd=0
   ·by_cases j:(ly s (cL s (it (cL s r))) c).cd=0
    ·have a:=mM hit d hd h g i j;have o:r.pos<s.length:=by have:=a.lt;have:=a.ok.pos;omega
     rw[tk h f g i ⟨j,a.lt,o⟩]at b |-
     have e:=q (s.length-(ly s (cL s (it (cL s r))) c).pos) (by have:=a.lt;omega) k _ rfl a.ok (by rw[a.dp];exact hd) (by have:=a.pre.length_le;omega) b;exact⟨e.ok,by have:=a.lt;have:=e.lt;omega,a.pre.trans e.pre,e.hd.trans a.hd,e.bs.trans a.bs,by have:=e.dp;have:=a.dp;omega,by have:=e.AJ;have:=a.AJ;have:=a.lt;have:=e.lt;omega⟩
    rw[th h f g i j]at b;exact absurd b j
   rw[tj h f g i]at b;exact absurd b i
  rw[tm h f g]at b;exact absurd b g
 rw[pC h]at b;exact absurd b h
theorem H5{s:Bs}{it:Rd->Rd}{c k:Int}{r:Rd}{p:Pp}(t:0<=c)(v:r.pos<s.length)(d:Ok s r)(hit:r.dp<40->kw s (r.dp+1) it)(i:(qO s it c k r p).cd=0):MG s r (qO s it c k r p):=by
 unfold qO at i |-
 split
 ·rename_i h;rw[aB h]at i;exact absurd i h
 rename_i h;rw[aA h]at i;obtain⟨e,hd⟩:=pQ (show(jt r k 6 p r.pos).cd=0 by simpa using h);have x:=d.sz;have m:Ok s (atR (jt r k 6 p r.pos) (r.pos+1)):=by rw[e];refine⟨d.cd,v,by simp[atR,bB,d.dn],by simp only[atR,bB,aC];have:=d.bs;omega,by simp only[atR];omega,by simp only[atR,bB,aC,aH];omega,d.hd,d.pf⟩
 have b:=M5 t (hit hd) (by omega) _ r.ev.length _ rfl m (by rw[e];rfl) (by rw[e];simp[atR,bB]) i;have w:=b.lt;have a:=b.pre;have g:=b.AJ;have l:=b.hd;have j:=b.bs;have u:=b.dp;have f:=b.ok;have y:(atR (jt r k 6 p r.pos) (r.pos+1)).pos=r.pos+1:=rfl;have n:(atR (jt r k 6 p r.pos) (r.pos+1)).ev=r.ev++[oQ k 6 p.an p.tg]:=by rw[e];rfl
 have o:(atR (jt r k 6 p r.pos) (r.pos+1)).hd=r.hd:=by rw[e];rfl
 have q:(atR (jt r k 6 p r.pos) (r.pos+1)).bs=r.bs:=by rw[e];rfl
 have z:(atR (jt r k 6 p r.pos) (r.pos+1)).dp=r.dp+1:=by rw[e];rfl
 generalize qN s it c r.ev.length (atR (jt r k 6 p r.pos) (r.pos+1))=r' at *;rw[n]at a;rw[n,aC,aH]at g;exact⟨f,by omega,(ea _ _).trans a,l.trans o,j.trans q,by omega,by omega⟩
end Go.Pl
namespace Go.Pl
theorem MG.TL{s:Bs}{r r':Rd}{q:Nat}(h:MG s (atR r q) r')(a:r.pos<=q):MG s r r' :=
 ⟨h.ok,by have:=h.lt;simp only[atR]at this;omega,h.pre,h.hd,h.bs,h.dp,by have:=h.AJ;have:=h.lt;simp only[atR]at *;omega⟩
theorem yL{s:Bs}{r:Rd}{e:Ev}{q q2:Nat}(a:Ok s r)(b:r.pos<q2)(c:q2<=s.length):MG s r (hB (atR r q) e q2):=
 ⟨⟨a.cd,c,by simp[hB,atR,bB,a.dn],by simp only[hB,atR,bB,aC];have:=a.bs;omega,a.dp,by simp only[hB,atR,bB,aC,aH];have:=a.sz;omega,a.hd,a.pf⟩,b,ea _ _,rfl,rfl,rfl,by simp only[hB,atR,bB,aC,aH];omega⟩
theorem Om{s:Bs}{g:Rd->Rd}{r:Rd}(f:Ok s r)(hit:r.dp<40->kw s (r.dp+1) g)(j:r.dp<40->kw s (r.dp+1) (n1 s g))(a:(yf s g r).cd=0):MG s r (yf s g r):=by
 unfold yf at a |-
 split
 ·rename_i h;rw[aB h]at a;exact absurd a h
 rename_i h;rw[aA h]at a;obtain⟨q,e,i,m,n⟩:=oH f.pos f.cd (show(km s r).cd=0 by simpa using h);rw[e]at a |-
 have b:=f.at i m;unfold pA at a |-
 split
 ·rename_i c;rw[aB c]at a;exact(H5 (by decide) (cE c (by decide)) b hit a).TL i
 rename_i c;rw[aA c]at a;split
 ·rename_i d;rw[aB d]at a;exact(H5 (by decide) (cE d (by decide)) b j a).TL i
 rename_i d;rw[aA d]at a;obtain⟨ev,q2,l,o,p,t⟩:=I1 b.pos b.cd a;rw[l];have u:r.pos<q2:=by
  cases k:(ia s true r).has
  ·have:=t k;simp only[atR]at this;omega
  have:=n k;simp only[atR]at o;omega
 exact yL f u p
theorem pR{s:Bs}{w:Rd->Rd}{r:Rd}(f:Ok s r)(hit:kw s r.dp w)(b:(n1 s w r).cd=0):MG s r (n1 s w r):=by
 unfold n1 at b |-
 split
 ·rename_i h;rw[aB h]at b;exact absurd b h
 rename_i h;rw[aA h]at b;obtain⟨q,e,G,H,I⟩:=oH f.pos f.cd (show(km s r).cd=0 by simpa using h);generalize R:je (bW s (km s r).pos)=S at *;rw[e]at b |-
 have l:=f.at G H;split
 ·rename_i j;rw[aB j]at b;exact absurd b j
 rename_i j;rw[aA j]at b;obtain⟨ev,q2,C,J,K,L⟩:=I1 l.pos l.cd (show(oM s (atR r q) (ia s true r) 125 58).cd=0 by simpa using j);have M:r.pos<q2:=by
  cases z:(ia s true r).has
  ·have:=L z;simp only[atR]at this;omega
  have:=I z;simp only[atR]at J;omega
 rw[C]at b |-
 have Q:=yL (q:=q) (e:=ev) f M K;split
 ·rename_i g;rw[aB g]at b;exact absurd b g
 rename_i g;rw[aA g]at b;have y:=gm (show(cL s (hB (atR r q) ev q2)).cd=0 by simpa using g);have N:=fq s q2;have t:dR s q2<s.length:=y.2;have D:cL s (hB (atR r q) ev q2)=hB (atR r q) ev (dR s q2):=y.1;rw[D]at b |-
 have x:∀n,r.pos<n->n<=s.length->MG s r (cY (hB (atR r q) ev n) 1 [] [] []):=fun n u v=>
  ⟨⟨f.cd,v,by simp[hB,atR,bB,cY,f.dn],by simp only[hB,atR,bB,cY,aC];have:=f.bs;omega,f.dp,by simp only[hB,atR,bB,cY,aC,aH];have:=f.sz;omega,f.hd,f.pf⟩,u,(ea _ _).trans (ea _ _),rfl,rfl,rfl,by simp only[hB,atR,bB,cY,aC,aH];omega⟩
 unfold Qt at b |-
 split
 ·rename_i o;rw[aB o]at b;have B:dR s q2<s.length:=t;unfold VB at b |-
  split
  ·rename_i d;rw[aB d]at b;exact absurd b d
  rename_i d;rw[aA d]at b;have E:atR (hB (atR r q) ev (dR s q2)) ((hB (atR r q) ev (dR s q2)).pos+1)=hB (atR r q) ev (dR s q2+1):=rfl;rw[E]at b |- d
  have k:=gm (show(cL s (hB (atR r q) ev (dR s q2+1))).cd=0 by simpa using d);have F:cL s (hB (atR r q) ev (dR s q2+1))=hB (atR r q) ev (dR s (dR s q2+1)):=k.1;have O:=fq s (dR s q2+1);have P:dR s (dR s q2+1)<s.length:=k.2;rw[F]at b |-
  split
  ·exact x _ (by omega) (by omega)
  rename_i p;rw[aA p]at b;have c:=yL (q:=q) (e:=ev) (q2:=dR s (dR s q2+1)) f (by omega) (by omega);have i:=hit _ c.ok c.dp b;exact⟨i.ok,by have:=c.lt;have:=i.lt;omega,c.pre.trans i.pre,i.hd.trans c.hd,i.bs.trans c.bs,i.dp.trans c.dp,by have:=i.AJ;have:=c.AJ;have:=i.lt;omega⟩
 exact x _ (by omega) (by omega)
theorem n0{s:Bs}:∀(d:Nat) (r:Rd),Ok s r->r.dp+d=40->(sW s d r).cd=0->MG s r (sW s d r)
 |0,r,c,hd,e=>Om c (fun h=>by omega) (fun h=>by omega) e
 |d+1,r,c,hd,e=>by have hit:kw s (r.dp+1) (sW s d):=fun g a f b=>n0 d g a (by omega) b;exact Om c (fun _=>hit) (fun _ g a f b=>pR a (by rw[f];exact hit) b) e
end Go.Pl
namespace Go.Pl
theorem Ee{s:Bs}{r F x:Rd}(b:Ok s r)(g:F=km s r)(c:F.cd=0)(d:x=oM s F (ia s true r) 125 58)(f:x.cd=0):MG s r x:=by
 obtain⟨q,e,j,k,l⟩:=oH b.pos b.cd (show(km s r).cd=0 by rw[<-g];exact c);have a:=b.at j k;rw[g,e]at d;obtain⟨ev,q2,i,m,n,o⟩:=I1 a.pos a.cd (show(oM s (atR r q) (ia s true r) 125 58).cd=0 by rw[<-d];exact f);have p:r.pos<q2:=by
  cases h:(ia s true r).has
  ·have:=o h;simp only[atR]at this;omega
  have:=l h;simp only[atR]at m;omega
 rw[d,i];exact yL b p n
end Go.Pl
end
