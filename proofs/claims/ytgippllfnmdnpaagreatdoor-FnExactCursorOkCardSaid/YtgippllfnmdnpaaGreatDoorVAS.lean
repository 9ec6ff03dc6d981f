/- Own text: part VAS. -/
import Derived.Test.YtgippllfnmdnpaaGreatDoorVAR
import Derived.Test.YtgippllfnmdnpaaGreatDoorVAN
import Derived.Test.YtgippllfnmdnpaaGreatDoorVAP
import Derived.Lib.DecodeN
import Derived.Test.YtgippllfnmdnpaaGreatDoorVAJ
import Derived.ChangeArms
import Derived.ChangeFn
set_option linter.all false
section
namespace Go.Vg
open Go.Pl
variable[Go.Vg.df]
theorem Yi:type_of% (ai (ai (ai (ai @aV @aD) (ai @aY @bA)) (ai (ai @aE @aO) (ai @aR @bD))) (ai (ai (ai @beq_iff_eq.{0} @beq_eq_false_iff_ne.{0}) (ai @ne_eq.{1} @ge_iff_le.{0})) (ai (ai @gt_iff_lt.{0} @Int.not_le) (ai @Int.not_lt (ai @fB @dF))))):=(ai (ai (ai (ai @aV @aD) (ai @aY @bA)) (ai (ai @aE @aO) (ai @aR @bD))) (ai (ai (ai @beq_iff_eq.{0} @beq_eq_false_iff_ne.{0}) (ai @ne_eq.{1} @ge_iff_le.{0})) (ai (ai @gt_iff_lt.{0} @Int.not_le) (ai @Int.not_lt (ai @fB @dF)))))
theorem Wm{P:Program}{f:FuncId}{a:List SV}{pre:dZ}{Z:SV}{C:dZ}(g:gQ P f 5 a pre fun z c=>z=Z/\c=C){args:List SV}{kk:Nat}{st:St}{K:Sl (SV×St)}(h:K.f (Z.bP (dX [0,1,2,3,4] st.ctx.length),⟨st.env,lB (dX [0,1,2,3,4] st.ctx.length) [0,1,2,3,4] pre C st.ctx⟩))(b:hZ (dX [0,1,2,3,4] st.ctx.length) a=args:=by simp[Yf])(e:pre.length=5:=by rfl)(d:jx (dX [0,1,2,3,4] st.ctx.length) st.ctx [0,1,2,3,4] pre:=by simp only[Ye];exact⟨by omega,aM (by simp[Yf,Yh,bI]),by omega,aF fun _=>rfl,by omega,aF fun _=>rfl,by omega,cB,by omega,aF fun _=>rfl⟩):eS P f args kk st K:=
 eS.mut g e [0,1,2,3,4] b d (by decide) h
theorem Wb{P:Program}{f:FuncId}{k:Nat}{a:List SV}{pre:dZ}{Z:SV}{C:dZ}(j:gQ P f k a pre fun z c=>z=Z/\c=C){args:List SV}{kk:Nat}{st:St}{K:Sl (SV×St)}(l:K.f (Z.bP (dX [0,1,2,3,4] st.ctx.length),⟨lZ ([0,1,2,3,4].drop k) st.env,lB (dX [0,1,2,3,4] st.ctx.length) [0,1,2,3,4] pre C st.ctx⟩))(d:hZ (dX [0,1,2,3,4] st.ctx.length) a=args:=by simp[Yf])(h:jx (dX [0,1,2,3,4] st.ctx.length) st.ctx [0,1,2,3,4] pre:=by simp only[Ye];exact⟨by omega,aM (by simp[Yf,Yh,bI]),by omega,aF fun _=>rfl,by omega,aF fun _=>rfl,by omega,cB,by omega,aF fun _=>rfl⟩)(i:da k pre:=by simp[da,SO.ro,YC])(e:(([0,1,2,3,4]:List Nat).drop k).all (fun g=>decide (kk<=g))=true:=by decide)(b:iI (([0,1,2,3,4]:List Nat).drop k) (lh [0,1,2,3,4] pre) 0 st.ctx:=by simp[iI,lh,jw,kQ,ma,SO.ro,fF,YC]):eS P f args kk st K:=
 eS.K6 j [0,1,2,3,4] d h (by decide) i e b l
theorem Wf{A B C D E:List Nat->Prop}(c:C [0,1,2,3,4]:=by simp only[↓XC,X1,seval];try first|rfl|simp[Yf,bI])(a:A [0,1,2,3,4]:=by decide)(b:B [0,1,2,3,4]:=by simp only[Yd];exact⟨aM (by simp[Yf,Yh,bI]),aF fun _=>rfl,aF fun _=>rfl,cB,aF fun _=>rfl⟩)(d:D [0,1,2,3,4]:=by simp[da,SO.ro,YC])(e:E [0,1,2,3,4]:=by simp):∃l,A l/\B l/\C l/\D l/\E l:=⟨_,a,b,c,d,e⟩
end Go.Vg
end
section
namespace Go.Vg
variable[Go.Vg.df]
open Go.Pl
def lU(P:Program)(f:FuncId)(s:Bs)(args:List SV)(x h:Rb):Prop:=gQ P f 1 (.ptr 0 0 0::args) (iF s x.r x.fr (x.lt:Nat)) fun z c=>z=.b (decide (h.r.cd=0))/\c=iF s h.r h.fr (h.lt:Nat)
theorem eS.Vo{P:Program}{f:FuncId}{args args':List SV}{kk:Nat}{st:St}{K:Sl (SV×St)}(b:eS P f args' kk st K)(h:∀σ vs,dm σ args vs->dm σ args' vs):eS P f args kk st K:=
 ⟨b.1,fun A σ a w vs c d e g=>b.2 A σ a w vs c d e (h σ _ g)⟩
theorem ED{σ:ey}{x:SV}{r:List SV}{vs:List Value}:dm σ (.gd true x::r) vs=dm σ (x::r) vs:=by simp[dm,rel]
theorem O3{σ:ey}{x y z:SV}{r:List SV}{vs:List Value}:dm σ (z::y::.gd true x::r) vs=dm σ (z::y::x::r) vs:=by simp[dm,rel]
end Go.Vg
end
section
namespace Go.Vg
variable[Go.Vg.df]
open Go.Pl
def ql(P:Program)(f:FuncId)(s:Bs)(args:List SV)(g:Int)(r:Rd)(b:Rb):Prop:=gQ P f 1 (.ptr 0 0 0::args) (fk s r (r.pos:Nat) g) fun z c=>∃(a d:Int) (e:Bool),(b.r.cd=0->a=((b.r.pos:Nat):Int)/\e=b.fr)/\z=.b e/\c=fk s b.r a d
end Go.Vg
namespace Go.Vg
variable[Go.Vg.df]
open Go.Pl
def Ji(P:Program)(f:FuncId)(s:Bs)(args:List SV)(e:Int)(r:Rd)(b:Rb):Prop:=gQ P f 1 (.ptr 0 0 0::args) (fk s r (r.pos:Nat) e) fun z c=>∃(a d:Int),(b.r.cd=0->a=((b.r.pos:Nat):Int)/\b.fr=true)/\z=.fJ []/\c=fk s b.r a d
end Go.Vg
end
section
namespace Go.Pl
def bN(t:Bs)(i:Nat):Int:=((t.getD i 0).toNat:Nat)
def EG(k:Nat):Int:=if k=2 then 192 else if k=3 then 224 else if k=4 then 240 else 0
def GR(t:Bs)(k:Nat):Nat->Int
 |0=>bN t 0-EG k
 |i+1=>GR t k i*64+bN t (i+1)-128
def yI(t:Bs)(k:Nat):Int:=GR t k (k-1)
def Pb(t:Bs)(k:Nat):Nat×Nat:=
 if h:k<=4/\k<=t.length then(if oJ (yI t k)=t.take k then((yI t k).toNat,k)else Pb t (k+1))else(0,0)
termination_by 5-k
theorem Ju(t:Bs)(i:Nat):0<=bN t i/\bN t i<256:=by unfold bN;have:=(t.getD i 0).toNat_lt;omega
theorem VV(t:Bs)(h:t≠[]):Bw t=Go.Lib.decodeN t.length (bN t 0).toNat (bN t 1).toNat (bN t 2).toNat (bN t 3).toNat:=by
 have a:(⟨t.toArray⟩:ByteArray).size=t.length:=by show t.toArray.size=_;exact fQ
 have b:∀i,(⟨t.toArray⟩:ByteArray).get! i=t.getD i 0:=fun i=>by show t.toArray[i]! = _;rw[aG];simp;rfl
 unfold Bw Go.Lib.decodeGo;rw[a,aA (by simpa using h),Go.Lib.decode_at,a];simp only[b,bN,Int.toNat_natCast,aX,Nat.sub_zero]
theorem of_eq{n:Nat}{b:UInt8}(h:n<256):UInt8.ofNat n=b↔n=b.toNat:=by
 constructor
 ·intro e;rw[<-e,UInt8.toNat_ofNat'];omega
 intro e;rw[e,UInt8.ofNat_toNat]
theorem UX{r:Int}{b:UInt8}:oJ r=[b]↔r=(b.toNat:Nat)/\b.toNat<128:=by
 have f:=b.toNat_lt;by_cases h:r<0\/1114111<r\/(55296<=r/\r<=57343)
 ·rw[lT h];constructor
  ·intro e;simp at e
  omega
 obtain⟨n,rfl⟩:∃n:Nat,r=n:=⟨r.toNat,by omega⟩
 by_cases a:n<128
 ·rw[GN h a,dg,of_eq (by omega)];simp;omega
 constructor
 ·intro e;by_cases c:n<2048
  ·rw[GO h a c]at e;simp at e
  by_cases d:n<65536
  ·rw[GP h c d]at e;simp at e
  rw[GQ h d]at e;simp at e
 omega
theorem RC{r:Int}{a b:UInt8}:oJ r=[a,b]↔r=((a.toNat:Nat)-192)*64+(b.toNat:Nat)-128/\194<=a.toNat/\a.toNat<224/\128<=b.toNat/\b.toNat<192:=by
 have g:=a.toNat_lt;have i:=b.toNat_lt;by_cases h:r<0\/1114111<r\/(55296<=r/\r<=57343)
 ·rw[lT h];constructor
  ·intro e;simp at e
  omega
 obtain⟨n,rfl⟩:∃n:Nat,r=n:=⟨r.toNat,by omega⟩
 by_cases c:n<128
 ·rw[GN h c];constructor
  ·intro e;simp at e
  omega
 by_cases d:n<2048
 ·rw[GO h c d,dg,dg,of_eq (by omega),of_eq (by omega)];simp;omega
 constructor
 ·intro e;by_cases f:n<65536
  ·rw[GP h d f]at e;simp at e
  rw[GQ h f]at e;simp at e
 omega
theorem RB{r:Int}{a b c:UInt8}:oJ r=[a,b,c]↔r=(((a.toNat:Nat)-224)*64+(b.toNat:Nat)-128)*64+(c.toNat:Nat)-128/\2048<=r/\¬(55296<=r/\r<=57343)/\224<=a.toNat/\a.toNat<240/\128<=b.toNat/\b.toNat<192/\128<=c.toNat/\c.toNat<192:=by
 have i:=a.toNat_lt;have j:=b.toNat_lt;have k:=c.toNat_lt;by_cases h:r<0\/1114111<r\/(55296<=r/\r<=57343)
 ·rw[lT h];constructor
  ·intro e;simp at e
  omega
 obtain⟨n,rfl⟩:∃n:Nat,r=n:=⟨r.toNat,by omega⟩
 by_cases d:n<128
 ·rw[GN h d];constructor
  ·intro e;simp at e
  omega
 by_cases f:n<2048
 ·rw[GO h d f];constructor
  ·intro e;simp at e
  omega
 by_cases g:n<65536
 ·rw[GP h f g,dg,dg,dg,of_eq (by omega),of_eq (by omega),of_eq (by omega)];simp;omega
 constructor
 ·intro e;rw[GQ h g]at e;simp at e
 omega
theorem RA{r:Int}{a b c d:UInt8}:oJ r=[a,b,c,d]↔r=((((a.toNat:Nat)-240)*64+(b.toNat:Nat)-128)*64+(c.toNat:Nat)-128)*64+(d.toNat:Nat)-128/\65536<=r/\r<=1114111/\240<=a.toNat/\128<=b.toNat/\b.toNat<192/\128<=c.toNat/\c.toNat<192/\128<=d.toNat/\d.toNat<192:=by
 have j:=a.toNat_lt;have k:=b.toNat_lt;have l:=c.toNat_lt;have hd:=d.toNat_lt;by_cases h:r<0\/1114111<r\/(55296<=r/\r<=57343)
 ·rw[lT h];constructor
  ·intro e;simp at e
  omega
 obtain⟨n,rfl⟩:∃n:Nat,r=n:=⟨r.toNat,by omega⟩
 by_cases f:n<128
 ·rw[GN h f];constructor
  ·intro e;simp at e
  omega
 by_cases g:n<2048
 ·rw[GO h f g];constructor
  ·intro e;simp at e
  omega
 by_cases i:n<65536
 ·rw[GP h g i];constructor
  ·intro e;simp at e
  omega
 rw[GQ h i,dg,dg,dg,dg,of_eq (by omega),of_eq (by omega),of_eq (by omega),of_eq (by omega)];simp;omega
theorem GU{t:Bs}{k:Nat}(h:k<=4/\k<=t.length)(e:oJ (yI t k)=t.take k):Pb t k=((yI t k).toNat,k):=by rw[Pb,bV h,aB e]
theorem GS{t:Bs}{k:Nat}(h:k<=4/\k<=t.length)(e:¬oJ (yI t k)=t.take k):Pb t k=Pb t (k+1):=by rw[Pb,bV h,aA e]
theorem Dh{t:Bs}{k:Nat}(h:¬(k<=4/\k<=t.length)):Pb t k=(0,0):=by rw[Pb,cV h]
theorem Xv:∀{l:Bs},1<=l.length->l.take 1=[l.getD 0 0]
 |_::_,_=>by simp
theorem Xw:∀{l:Bs},2<=l.length->l.take 2=[l.getD 0 0,l.getD 1 0]
 |[_],h=>by simp at h
 |_::_::_,_=>by simp
theorem Xx:∀{l:Bs},3<=l.length->l.take 3=[l.getD 0 0,l.getD 1 0,l.getD 2 0]
 |[_],h=>by simp at h
 |[_,_],h=>by simp at h
 |_::_::_::_,_=>by simp
theorem Xy:∀{l:Bs},4<=l.length->l.take 4=[l.getD 0 0,l.getD 1 0,l.getD 2 0,l.getD 3 0]
 |[_],h=>by simp at h
 |[_,_],h=>by simp at h
 |[_,_,_],h=>by simp at h
 |_::_::_::_::_,_=>by simp
set_option maxHeartbeats 4000000 in
theorem RD(t:Bs):Pb t 1=yq t:=by
 by_cases n:t=[]
 ·subst n;rw[Dh (by simp)];rfl
 have o:1<=t.length:=by cases t;exact absurd rfl n;simp
 have a:∀i,(t.getD i 0).toNat<256:=fun i=>(t.getD i 0).toNat_lt;have C:=a 0;have D:=a 1;have E:=a 2;have F:=a 3;have r:yI t 1=((t.getD 0 0).toNat:Nat):=by show bN t 0-EG 1=_;simp[bN,EG]
 have s:yI t 2=(((t.getD 0 0).toNat:Nat)-192)*64+((t.getD 1 0).toNat:Nat)-128:=by show(bN t 0-EG 2)*64+bN t 1-128=_;simp[bN,EG]
 have j:yI t 3=((((t.getD 0 0).toNat:Nat)-224)*64+((t.getD 1 0).toNat:Nat)-128)*64+((t.getD 2 0).toNat:Nat)-128:=by show((bN t 0-EG 3)*64+bN t 1-128)*64+bN t 2-128=_;simp[bN,EG]
 have k:yI t 4=(((((t.getD 0 0).toNat:Nat)-240)*64+((t.getD 1 0).toNat:Nat)-128)*64+((t.getD 2 0).toNat:Nat)-128)*64+((t.getD 3 0).toNat:Nat)-128:=by show(((bN t 0-EG 4)*64+bN t 1-128)*64+bN t 2-128)*64+bN t 3-128=_;simp[bN,EG]
 have p:oJ (yI t 1)=t.take 1↔(t.getD 0 0).toNat<128:=by rw[Xv o,UX,r];simp only[cP]
 have q:2<=t.length->(oJ (yI t 2)=t.take 2↔194<=(t.getD 0 0).toNat/\(t.getD 0 0).toNat<224/\128<=(t.getD 1 0).toNat/\(t.getD 1 0).toNat<192):=fun h=>by rw[Xw h,RC,s];simp only[cP]
 have u:3<=t.length->(oJ (yI t 3)=t.take 3↔2048<=yI t 3/\¬(55296<=yI t 3/\yI t 3<=57343)/\224<=(t.getD 0 0).toNat/\(t.getD 0 0).toNat<240/\128<=(t.getD 1 0).toNat/\(t.getD 1 0).toNat<192/\128<=(t.getD 2 0).toNat/\(t.getD 2 0).toNat<192):=fun h=>by rw[Xx h,RB];exact⟨fun h=>h.2,fun h=>⟨j,h⟩⟩
 have v:4<=t.length->(oJ (yI t 4)=t.take 4↔65536<=yI t 4/\yI t 4<=1114111/\240<=(t.getD 0 0).toNat/\128<=(t.getD 1 0).toNat/\(t.getD 1 0).toNat<192/\128<=(t.getD 2 0).toNat/\(t.getD 2 0).toNat<192/\128<=(t.getD 3 0).toNat/\(t.getD 3 0).toNat<192):=fun h=>by rw[Xy h,RA];exact⟨fun h=>h.2,fun h=>⟨k,h⟩⟩
 have hd:=VV t n;simp only[bN,Int.toNat_natCast]at hd;have A:∀x y:Nat,Bw t=(x,y)->y≠0->¬(x=65533/\y=1)->yq t=(x,y):=fun x y e w z=>by unfold yq;rw[e,aA (by simp only;omega)]
 have B:Bw t=(65533,1)->yq t=(0,0):=fun e=>by unfold yq;rw[e];rfl
 generalize (t.getD 0 0).toNat=b at *;generalize (t.getD 1 0).toNat=c at *;generalize (t.getD 2 0).toNat=d at *;generalize (t.getD 3 0).toNat=l at *;by_cases c1:b<128
 ·rw[GU ⟨by decide,o⟩ (p.2 c1),r,Int.toNat_natCast];exact(A b 1 (by rw[hd];unfold Go.Lib.decodeN;rw[aB c1]) (by decide) (by omega)).symm
 rw[GS ⟨by decide,o⟩ (fun h=>c1 (p.1 h))];by_cases m:2<=t.length
 rotate_left
 ·rw[Dh (by omega),B];rw[hd];unfold Go.Lib.decodeN;rw[aA c1,aA (by omega),aA (by omega),aA (by omega)]
 by_cases c2:194<=b/\b<224/\128<=c/\c<192
 ·rw[GU ⟨by decide,m⟩ ((q m).2 c2),s];refine(A _ 2 ?_ (by decide) (by omega)).symm;rw[hd];unfold Go.Lib.decodeN;rw[aA c1,aB (by omega),aB (by omega),eb];exact⟨by omega,rfl⟩
 rw[GS ⟨by decide,m⟩ (fun h=>c2 ((q m).1 h))];by_cases n3:3<=t.length
 rotate_left
 ·rw[Dh (by omega),B];rw[hd];unfold Go.Lib.decodeN;rw[aA c1];split
  ·rw[aA (by omega)]
  rw[aA (by omega),aA (by omega)]
 have f:=u n3;rw[j]at f;by_cases c3:2048<=((((b:Nat):Int)-224)*64+(c:Nat)-128)*64+(d:Nat)-128/\¬(55296<=((((b:Nat):Int)-224)*64+(c:Nat)-128)*64+(d:Nat)-128/\((((b:Nat):Int)-224)*64+(c:Nat)-128)*64+(d:Nat)-128<=57343)/\224<=b/\b<240/\128<=c/\c<192/\128<=d/\d<192
 ·rw[GU ⟨by decide,n3⟩ (by rw[j];exact f.2 c3),j];refine(A _ 3 ?_ (by decide) (by omega)).symm;rw[hd];unfold Go.Lib.decodeN;rw[aA c1,aA (by omega),aB (by omega),aB (by omega),eb];exact⟨by omega,rfl⟩
 rw[GS ⟨by decide,n3⟩ (fun h=>c3 (f.1 (by rw[j]at h;exact h)))];by_cases n4:4<=t.length
 rotate_left
 ·rw[Dh (by omega),B];rw[hd];unfold Go.Lib.decodeN;rw[aA c1];split
  ·rw[aA (by omega)]
  split
  ·rw[aA (by omega)]
  rw[aA (by omega)]
 have g:=v n4;rw[k]at g;by_cases c4:65536<=(((((b:Nat):Int)-240)*64+(c:Nat)-128)*64+(d:Nat)-128)*64+(l:Nat)-128/\(((((b:Nat):Int)-240)*64+(c:Nat)-128)*64+(d:Nat)-128)*64+(l:Nat)-128<=1114111/\240<=b/\128<=c/\c<192/\128<=d/\d<192/\128<=l/\l<192
 ·rw[GU ⟨by decide,n4⟩ (by rw[k];exact g.2 c4),k];refine(A _ 4 ?_ (by decide) (by omega)).symm;rw[hd];unfold Go.Lib.decodeN;rw[aA c1,aA (by omega),aA (by omega),aB (by omega),aB (by omega),eb];exact⟨by omega,rfl⟩
 rw[GS ⟨by decide,n4⟩ (fun h=>c4 (g.1 (by rw[k]at h;exact h))),Dh (by omega),B];rw[hd];unfold Go.Lib.decodeN;rw[aA c1];split
 ·rw[aA (by omega)]
 split
 ·rw[aA (by omega)]
 split
 ·rw[aA (by omega)]
 rfl
theorem Pa(t:Bs)(k:Nat):∀j,j<=3 -> -70000000<=GR t k j/\GR t k j<=70000000:=by
 have i:0<=EG k/\EG k<=240:=by unfold EG;(repeat' split)<;>decide
 have e:=Ju t 0;have f:=Ju t 1;have g:=Ju t 2;have h:=Ju t 3;intro j l;have a:GR t k 0=bN t 0-EG k:=rfl;have b:GR t k 1=GR t k 0*64+bN t 1-128:=rfl;have c:GR t k 2=GR t k 1*64+bN t 2-128:=rfl;have d:GR t k 3=GR t k 2*64+bN t 3-128:=rfl;obtain rfl|rfl|rfl|rfl:j=0\/j=1\/j=2\/j=3:=by omega
 all_goals omega
end Go.Pl
end
section
namespace Go.Vg
variable[Go.Vg.df]
open Go.RowKit
def fits(te:TE):Nat->TypeId->List SV->Prop
 |0,_,_=>False
 |n+1,t,xs=>match te t with
  |none=>False
  |some ti=>match ti.td with
   | .bool=>∃b,xs=[.b b]
   | .int k=>∃m,xs=[.i k m]/\iU k m
   | .str=>∃l,xs=[.s l]/\l.length<=9223372036854775807
   | .slice e=>∃l,xs=[.fs (gW te e) l]/\l.length<=9223372036854775807/\∀y∈l,fits te n e y
   | .struct fs=>xs.length=ti.size/\∀f∈fs,fits te n f.1 ((xs.drop f.2).take (gW te f.1))
   |_=>False
def P6(te:TE):Nat->List (TypeId×Nat)->Option Nat
 |off,[]=>some off
 |off,f::r=>if f.2=off then P6 te (off+gW te f.1) r else none
def oX(te:TE):Nat->TypeId->Bool
 |0,_=>false
 |n+1,t=>match te t with
  |none=>false
  |some ti=>match ti.td with
   | .bool=>ti.size==1
   | .int k=>(k == .i64||k == .u8||k == .i32)&&ti.size==1
   | .str=>ti.size==1
   | .slice e=>ti.size==1&&oX te n e&&decide (0<gW te e)
   | .struct fs=>P6 te 0 fs==some ti.size&&fs.all fun f=>oX te n f.1
   |_=>false
theorem tc{P:Program}{te:TE}(a:hX P te){t:TypeId}{ti:TI}(h:te t=some ti):P.cellsOf t=ti.size:=by obtain⟨i,b,c,_⟩:=(a t ti h).D0;simp[Program.cellsOf,b,c]
theorem Vr{k:IntKind}{n:Int}(a:(k == .i64||k == .u8||k == .i32)=true)(h:(Lit.int k n).wf=true):iU k n:=by cases k<;>simp at a<;>simp only[iU]<;>simp[Lit.wf,IntKind.min,IntKind.max,IntKind.bits,IntKind.signed]at h<;>omega
section
variable{H:Type}{enc:TypeId×Value->H}{P:Program}{w:World}{base:Nat}{spare:Nat->Bool}{held:Bool}{te:TE}
theorem Dq(o:hX P te){n:Nat}(i:∀(t:TypeId) (cs:List Value) (m:Nat) (x:DataW H×List MemPlace),oX te n t=true->DataW.trod enc P w base spare held m t cs=some x->∃xs,fits te n t xs/\dm ⟨fun _=>none,fun b=>w.heap[b]?⟩ xs cs/\eJ xs=true/\xs.length=gW te t)(m:Nat)(cs:List Value) :
  ∀(fs:List (TypeId×Nat)) (off c:Nat),P6 te off fs=some c->cs.length=c->(∀f∈fs,oX te n f.1=true)->(∀f∈fs,∃x,DataW.trod enc P w base spare held m f.1 ((cs.drop f.2).take (gW te f.1))=some x) ->
   off<=c/\∃xs,dm ⟨fun _=>none,fun b=>w.heap[b]?⟩ xs (cs.drop off)/\eJ xs=true/\∀f∈fs,off<=f.2/\fits te n f.1 ((xs.drop (f.2-off)).take (gW te f.1))
 |[],off,c,h,s,_,_=>by
  simp only[P6,db]at h;subst h;refine⟨aN _,[], ?_,rfl,by simp⟩;rw[fC (by omega)];simp[dm]
 |f::r,off,c,h,s,q,u=>by
  simp only[P6]at h;split at h
  case isFalse=>cases h
  rename_i d;obtain⟨hle,j,v,z,A⟩:=Dq o i m cs r _ c h s (fun g e=>q g (dI _ e)) (fun g e=>u g (dI _ e));obtain⟨x,p⟩:=u f (by simp);obtain⟨xs,g1,g2,g3,g4⟩:=i f.1 _ m x (q f (by simp)) p;refine⟨by omega,xs++j, ?_, ?_,fun g e=>?_⟩
  ·have:cs.drop off=(cs.drop off).take (gW te f.1)++cs.drop (off+gW te f.1):=by rw[<-List.drop_drop,List.take_append_drop]
   rw[this];rw[d]at g2;exact kK g2 v
  ·have:∀(a b:List SV),eJ a=true->eJ b=true->eJ (a++b)=true:=by
    intro a
    induction a with
    |nil=>intro b _ l;exact l
    |cons y j i=>intro b k l;simp only[eL,eJ,aD]at k |-;exact⟨k.1,i b k.2 l⟩
   exact this _ _ g3 z
  rcases eA.1 e with rfl|e
  ·refine⟨by omega, ?_⟩;rw[d,Nat.sub_self,gb,List.take_append_of_le_length (by omega),List.take_of_length_le (by omega)];exact g1
  obtain⟨C,B⟩:=A g e;refine⟨by omega, ?_⟩;have:(xs++j).drop (g.2-off)=j.drop (g.2-(off+gW te f.1)):=by rw[List.drop_append];rw[fC (by omega),gy];congr 1;omega
  rw[this];exact B
theorem Dr(l:hX P te):∀(n:Nat) (t:TypeId) (cs:List Value) (m:Nat) (x:DataW H×List MemPlace),oX te n t=true->DataW.trod enc P w base spare held m t cs=some x ->
  ∃xs,fits te n t xs/\dm ⟨fun _=>none,fun b=>w.heap[b]?⟩ xs cs/\eJ xs=true/\xs.length=gW te t
 |0,_,_,_,_,h,_=>by simp[oX]at h
 |n+1,t,cs,m,x,h,T=>by
  have ih:=Dr l n;simp only[oX]at h;cases u:te t with
  |none=>rw[u]at h;cases h
  |some ti=>
   rw[u]at h;simp only at h;have d:dP te t=ti.td:=by simp[dP,u]
   have r:gW te t=ti.size:=by simp[gW,u]
   simp only[fits,u];cases hd:ti.td with
   |bool=>
    rw[hd]at h d;simp only[dx]at h;obtain⟨b,rfl,_⟩:=DataW.trod_bool (sa l d) T;exact⟨[.b b],⟨b,rfl⟩,by simp[dm,rel],rfl,by simp[r,h]⟩
   |int k=>
    rw[hd]at h d;simp only[aD,dx]at h;obtain⟨v,rfl,_,hw⟩:=DataW.trod_int (kh l d) T;exact⟨[.i k v],⟨v,rfl,Vr h.1 hw⟩,by simp[dm,rel],rfl,by simp[r,h.2]⟩
   |str=>
    rw[hd]at h d;simp only[dx]at h;obtain⟨s,rfl,_,af⟩:=DataW.trod_string (ju l d) T;exact⟨[.s s.data.toList],⟨_,rfl,by rw[ds,ByteArray.size_data];exact cv af (by decide)⟩,by simp[dm,rel],rfl,by simp[r,h]⟩
   |slice e=>
    rw[hd]at h d;simp only[aD,dx,aE]at h;obtain⟨⟨M,Y⟩,W⟩:=h;obtain⟨V,S⟩:∃V,te e=some V:=by
     cases R:te e with
     |none=>simp[gW,R]at W
     |some V=>exact⟨V,rfl⟩
    have I:P.cellsOf e=gW te e:=by rw[tc l S];simp[gW,S]
    rcases DataW.trod_slice (gF l d) T with⟨rfl,_⟩|⟨a,len,cap,X,rest,m',_,rfl,_,_,Q,Z,ak,z,_⟩
    ·exact⟨[.fs (gW te e) []],⟨[],rfl,by simp,by simp⟩,by simp[dm,rel],rfl,by simp[r,M]⟩
    ·-- aj elements,one by one
     have each:∀i,i<len->∃D,fits te n e D/\D.length=gW te e/\∃o,w.cells? base (a.add (i*gW te e)) (gW te e)=some o/\dm ⟨fun _=>none,fun b=>w.heap[b]?⟩ D o/\eJ D=true:=by intro i p;have:=z i p;rw[aS (by omega),I]at this;obtain⟨o,g1,g2⟩:=Option.bind_eq_some_iff.1 this;obtain⟨D,k1,k2,k3,k4⟩:=ih e o m' _ Y g2;exact⟨D,k1,k4,o,g1,k2,k3⟩
     let L:List (List SV):=(List.range len).map fun i=>if p:i<len then Classical.choose (each i p)else[]
     have hL:∀i y,L[i]?=some y->∃p:i<len,y=Classical.choose (each i p):=by
      intro i y K;simp only[L,cu,cK]at K;obtain⟨j,hj,rfl⟩:=K;have p:i<len:=by have:=(cM.1 hj).1;simpa using this
      rw[List.getElem?_range p]at hj;cases hj;exact⟨p,by rw[bV p]⟩
     have hlen:L.length=len:=by simp[L]
     refine⟨[.fs (gW te e) L],⟨L,rfl,by rw[hlen];exact cv Q (cv Z (by decide)),fun y K=>?_⟩, ?_,rfl,by simp[r,M]⟩
     ·obtain⟨i,p⟩:=List.mem_iff_getElem?.1 K;obtain⟨B,rfl⟩:=hL i y p;exact(eF (each i B)).1
     ·simp only[dm,rel];refine⟨_,_,rfl,⟨some a,cap,by rw[hlen],by rw[hlen];exact Q, ?_⟩,rfl⟩;by_cases h0:len=0
      ·left;exact dj.1 (by omega)
      right;have cell:∀i k,i<len->k<gW te e->∃v,w.cell? (a.add (i*gW te e+k))=some v:=by
       intro i k p E;obtain⟨D,_,K,o,g1,g2,_⟩:=each i p;have O:=fv g2;unfold World.cells? at g1;split at g1
       ·have:=mapM_some_get g1 k k (by simp[E]);have e1:(a.add (i*gW te e)).add k=a.add (i*gW te e+k):=by unfold Addr.add;split<;>split<;>(try split)<;>simp_all<;>omega
        rw[e1]at this;exact⟨o[k]'(by omega),by rw[this];exact aS _⟩
       cases g1
      obtain⟨v0,C⟩:=cell 0 0 (by omega) W;have G:a.add (0*gW te e+0)=a:=by simp[Addr.add]
      rw[G]at C;obtain⟨ab,ao,N⟩:=a;unfold World.cell? at C;split at C
      ·rename_i c el fr A;have ag:N=none:=by
        cases N with
        |none=>rfl
        |some q=>simp at C
       subst ag;refine⟨ab,ao,c,el,fr,rfl,A,l3 fun j y K=>?_⟩;obtain⟨B,rfl⟩:=hL j y K;obtain⟨_,ah,o,g1,g2,g3⟩:=eF (each j B);refine⟨ah, ?_⟩;have aa:o=((c.toList.drop ao).drop (j*gW te e)).take (gW te e):=by
        have O:=fv g2;apply List.ext_getElem?;intro k;unfold World.cells? at g1;split at g1
        ·by_cases E:k<gW te e
         ·have:=mapM_some_get g1 k k (by simp[E]);rw[qU,qU,q8 A]at this;rw[<-this,cH,aB E,bY,bY];simp[dk]
         rw[cw (by omega),cH,aA E]
        cases g1
       rw[<-aa];exact g2
      ·cases C
   |struct fs=>
    rw[hd]at h d;simp only[aD,dx,cx]at h;obtain⟨ff,ad,F,_⟩:=lM l d;obtain⟨xs,m',_,_,O,al,z⟩:=DataW.trod_struct ad T;rw[tc l u]at O;obtain⟨_,D,M,Y,W⟩:=Dq l (fun t cs m x=>ih t cs m x) m' cs fs 0 ti.size h.1 O (fun f J=>h.2 f J) (fun f J=>by
     rw[<-F]at J;obtain⟨g,hg,rfl⟩:=List.mem_map.1 J;obtain⟨i,p⟩:=List.mem_iff_getElem?.1 hg;have ae:ff[i]?=some g:=by simpa using p
     have:=z i g ae;have B:i<xs.length:=by have:=(cM.1 p).1;simp at this;omega
     have E:=h.2 (g.type,g.offset) (by rw[<-F];exact J);have I:P.cellsOf g.type=gW te g.type:=by
      cases R:te g.type with
      |none=>
       cases n with
       |zero=>simp[oX]at E
       |succ n=>simp[oX,R]at E
      |some V=>rw[tc l R];simp[gW,R]
     rw[I]at this;exact⟨xs[i],by rw[this];exact aS B⟩)
    rw[gb]at M;have U:D.length=ti.size:=by rw[fv M];exact O
    exact⟨D,⟨U,fun f J=>by have:=(W f J).2;simpa using this⟩,M,Y,by rw[r];exact U⟩
   |map _ _=>rw[hd]at h;cases h
   |other=>rw[hd]at h;cases h
end
theorem tr{α β:Type}{f:α->β}{p:α->Prop}:∀{l:List β},(∀y∈l,∃e,p e/\y=f e)->∃es:List α,l=es.map f/\∀e∈es,p e
 |[],_=>⟨[],rfl,by simp⟩
 |y::g,h=>by obtain⟨e,a,rfl⟩:=h y (by simp);obtain⟨es,b,c⟩:=tr fun z d=>h z (dI _ d);exact⟨e::es,by simp[b],by simp[a];exact c⟩
def JT(te:TE)(n:Nat)(t:TypeId)(y:SV):Prop:=if(dP te t).eT then ∃xs,y=.agg xs/\fits te n t xs else fits te n t [y]
theorem I9{H:Type}{enc:TypeId×Value->H}{P:Program}{w:World}{base:Nat}{spare:Nat->Bool}{held:Bool}{te:TE}(f:hX P te){n:Nat}{t:TypeId}(c:oX te n t=true){v:Value}{d:DataW H}{ps:List MemPlace}{D:Reach}{A:Nat}(j:Value.okWide P w D A t v)(h:DataW.Trod enc P w base spare held t v d ps):∃y,JT te n t y/\rel ⟨fun _=>none,fun b=>w.heap[b]?⟩ y v:=by
 obtain⟨s,C⟩:=h;obtain⟨xs,l,m,F,x⟩:=Dr f n t _ _ _ c C;cases n with
 |zero=>simp[oX]at c
 |succ n=>
 simp only[oX]at c;cases i:te t with
 |none=>rw[i]at c;cases c
 |some ti=>
  rw[i]at c;simp only at c;have a:dP te t=ti.td:=by simp[dP,i]
  have q:gW te t=ti.size:=by simp[gW,i]
  rw[q]at x;have one:ti.size=1->(∀cs,v≠.agg cs)->∃y,xs=[y]/\rel ⟨fun _=>none,fun b=>w.heap[b]?⟩ y v:=by
   intro z p;obtain⟨y,rfl⟩:∃y,xs=[y]:=by
    match xs,x with
    |[y],_=>exact⟨y,rfl⟩
    |[],h=>rw[z]at h;simp at h
    |_::_::_,h=>rw[z]at h;simp at h
   refine⟨y,rfl, ?_⟩;have B:v.cells.toList=[v]:=by cases v<;>first|rfl|exact absurd rfl (p _)
   rw[B]at m;simp only[dm]at m;obtain⟨u,r,e,g,rfl⟩:=m;cases e;exact g
  unfold JT;rw[a];cases hd:ti.td with
  |bool=>
   rw[hd]at c a;have hu:=sa f a;obtain⟨y,rfl,g⟩:=one (by simpa using c) (fun cs e=>by subst e;simp[Value.okWide,Cell.okWide,Cell.ok,hu]at j);exact⟨y,by simpa[TD.eT]using l,g⟩
  |int k=>
   rw[hd]at c a;have hu:=kh f a;obtain⟨y,rfl,g⟩:=one (by simp at c;exact c.2) (fun cs e=>by subst e;simp[Value.okWide,Cell.okWide,Cell.ok,hu]at j);exact⟨y,by simpa[TD.eT]using l,g⟩
  |str=>
   rw[hd]at c a;have hu:=ju f a;obtain⟨y,rfl,g⟩:=one (by simpa using c) (fun cs e=>by subst e;simp[Value.okWide,Cell.okWide,Cell.ok,hu]at j);exact⟨y,by simpa[TD.eT]using l,g⟩
  |slice e=>
   rw[hd]at c a;have hu:=gF f a;obtain⟨y,rfl,g⟩:=one (by simp at c;exact c.1.1) (fun cs e=>by subst e;simp[Value.okWide,Cell.okWide,Cell.ok,hu]at j);exact⟨y,by simpa[TD.eT]using l,g⟩
  |struct fs=>
   rw[hd]at c a;obtain⟨E,o,_⟩:=lM f a;have:∃cs,v=.agg cs:=by simp only[Value.okWide,o]at j;obtain⟨cs,e,_⟩:=j;exact⟨cs,e⟩
   obtain⟨cs,rfl⟩:=this;refine⟨.agg xs,by simp only[TD.eT,dy];exact⟨xs,rfl,l⟩, ?_⟩;simp only[rel];exact⟨cs,rfl,m⟩
  |map _ _=>rw[hd]at c;cases c
  |other=>rw[hd]at c;cases c
end Go.Vg
end
section
namespace Go.Vg
theorem vL{w w':World}{b i:Nat}{o:Obj}{v:Value}(a:w.heap[b]?=some o)(c:w'.heap[b]?=some o)(h:w.cell? ⟨b,i,none⟩=some v):w'.cell? ⟨b,i,none⟩=some v:=by
 unfold World.cell? at h |-
 simp only[a]at h;simp only[c];exact h
theorem Cw{w:World}{b i:Nat}{v:Value}(h:w.cell? ⟨b,i,none⟩=some v):∃o,w.heap[b]?=some o:=by
 cases a:w.heap[b]? with
 |none=>unfold World.cell? at h;simp[a]at h
 |some o=>exact⟨o,rfl⟩
theorem FW[df]{a b:Nat}{w:World}(h:Go.Lib.Utf8Tabs a b w)(k:df.g a=w.heap[a]?)(l:df.g b=w.heap[b]?):cS a b:=by obtain⟨n,e⟩:=Cw (h.1 0 (by decide));obtain⟨o,d⟩:=Cw (h.2 0 (by decide)).1;refine⟨n,o,k.trans e,l.trans d,fun w' j f=>⟨fun c m=>vL e j (h.1 c m),fun i g=>⟨vL d f (h.2 i g).1,vL d f (h.2 i g).2⟩⟩⟩
end Go.Vg
end
