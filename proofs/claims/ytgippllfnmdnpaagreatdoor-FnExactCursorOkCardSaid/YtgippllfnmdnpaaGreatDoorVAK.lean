/- Own text: part VAK. -/
import Derived.Test.YtgippllfnmdnpaaGreatDoorVAA
import Derived.Test.YtgippllfnmdnpaaGreatDoorVAJ
import Derived.Laws.Externs
set_option linter.all false
section
namespace Go.Pl
abbrev Bs:=List UInt8
def spot(s:Bs)(p:Int):Nat:=min p.toNat s.length
theorem dW(s:Bs)(p:Int):spot s p<=s.length:=Nat.min_le_right _ _
theorem bQ(s:Bs){i:Nat}(h:i<=s.length):spot s i=i:=by unfold spot;omega
def bW(s:Bs)(i:Nat):Int:=match s[i]? with
 |some b=>b.toNat
 |none => -1
theorem cW{s:Bs}{i:Nat}(h:i<s.length):bW s i=(s.getD i 0).toNat:=by simp[bW,aS h,List.getD]
theorem eZ{s:Bs}{i:Nat}(h:s.length<=i):bW s i = -1:=by simp[bW,cw h]
theorem mC(s:Bs)(i:Nat) : -1<=bW s i/\bW s i<=255:=by
 unfold bW;split
 ·rename_i b _;have:=b.toNat_lt;omega
 omega
theorem Jy{s:Bs}{i:Nat}:bW s i<0↔s.length<=i:=by
 rcases aU i s.length with h|h
 ·rw[cW h];constructor<;>intro a<;>omega
 rw[eZ h];constructor<;>intro a<;>omega
def nD(s:Bs)(i:Nat):Bool:=bW s i==32||bW s i==9
def kH(s:Bs)(i:Nat):Bool:=bW s i==10||decide (bW s i<0)
theorem j0{s:Bs}{p:Int}(h:0<=p):bW s (spot s p)=bW s p.toNat:=by
 rcases aU p.toNat s.length with a|a
 ·rw[show spot s p=p.toNat from by unfold spot;omega]
 rw[eZ a,eZ (by unfold spot;omega)]
def gN(s:Bs)(i:Nat):Bool:=nD s i||kH s i
theorem zD{s:Bs}{i:Nat}(h:nD s i=true):i<s.length:=by
 rcases aU i s.length with a|a
 ·exact a
 simp[nD,eZ a]at h
theorem kb{s:Bs}{i:Nat}(h:kH s i=false):i<s.length:=by
 rcases aU i s.length with a|a
 ·exact a
 simp[kH,eZ a]at h
theorem gD{s:Bs}{i:Nat}(h:gN s i=false):i<s.length:=kb (by simp[gN]at h;exact h.2)
theorem QT{s:Bs}{i:Nat}(h:s.length<=i):gN s i=true:=by simp[gN,kH,eZ h]
def wh(s:Bs)(i:Nat):Nat:=if h:nD s i=true then wh s (i+1)else i
termination_by s.length-i
decreasing_by have:=zD h;omega
theorem Vs{s:Bs}{i:Nat}(h:nD s i=true):wh s i=wh s (i+1):=by rw[wh,bV h]
theorem RQ{s:Bs}{i:Nat}(h:nD s i=false):wh s i=i:=by rw[wh,cV (by simp[h])]
theorem gY(s:Bs)(i:Nat):i<=wh s i:=by
 fun_induction wh s i with
 |case1 i h a=>omega
 |case2 i h=>omega
theorem gO(s:Bs)(i:Nat)(h:i<=s.length):wh s i<=s.length:=by
 fun_induction wh s i with
 |case1 i a b=>exact b (zD a)
 |case2 i a=>exact h
theorem Jc(s:Bs)(i:Nat):nD s (wh s i)=false:=by
 fun_induction wh s i with
 |case1 i h b=>exact b
 |case2 i h=>simpa using h
def en(s:Bs)(i:Nat):Nat:=if h:kH s i=false then en s (i+1)else i
termination_by s.length-i
decreasing_by have:=kb h;omega
theorem T5{s:Bs}{i:Nat}(h:kH s i=false):en s i=en s (i+1):=by rw[en,bV h]
theorem T4{s:Bs}{i:Nat}(h:kH s i=true):en s i=i:=by rw[en,cV (by simp[h])]
theorem lW(s:Bs)(i:Nat):i<=en s i:=by
 fun_induction en s i with
 |case1 i h a=>omega
 |case2 i h=>omega
theorem jF(s:Bs)(i:Nat)(h:i<=s.length):en s i<=s.length:=by
 fun_induction en s i with
 |case1 i a b=>exact b (kb a)
 |case2 i a=>exact h
theorem DQ(s:Bs)(i:Nat):kH s (en s i)=true:=by
 fun_induction en s i with
 |case1 i h a=>exact a
 |case2 i h=>simpa using h
theorem Nq{s:Bs}{i q:Nat}(f:i<=q)(c:q<en s i):kH s q=false:=by
 fun_induction en s i with
 |case1 i b d=>
  rcases aU i q with h|h
  ·exact d h c
  ·have:i=q:=by omega
   subst this;exact b
 |case2 i b=>omega
def gp(s:Bs)(i:Nat):Nat:=if h:gN s i=false then gp s (i+1)else i
termination_by s.length-i
decreasing_by have:=gD h;omega
theorem QU{s:Bs}{i:Nat}(h:gN s i=false):gp s i=gp s (i+1):=by rw[gp,bV h]
theorem VY{s:Bs}{i:Nat}(h:gN s i=true):gp s i=i:=by rw[gp,cV (by simp[h])]
theorem Sa(s:Bs)(i:Nat):i<=gp s i:=by
 fun_induction gp s i with
 |case1 i h b=>omega
 |case2 i h=>omega
def sub(s:Bs)(a b:Nat):Bs:=(s.take b).drop a
def kN(s:Bs)(e:Nat)(p:Nat):List Bs:=
 let q:=wh s p
 if h:q<e/\bW s q≠35/\gN s q=false then sub s q (gp s q)::kN s e (gp s q)else[]
termination_by e-p
decreasing_by
 have a:=gY s p;have b:=QU (s:=s) (i:=wh s p) h.2.2;have c:=Sa s (wh s p+1);omega
theorem Cj(s:Bs)(e:Nat):∀(n p:Nat),e-p<=n->(kN s e p).length<=e-p
 |n,p,d=>by
  rw[kN];split
  ·rename_i h;have a:=gY s p;have b:=QU (s:=s) (i:=wh s p) h.2.2;have c:=Sa s (wh s p+1);cases n with
   |zero=>omega
   |succ n=>have:=Cj s e n (gp s (wh s p)) (by omega);simp only[aK];omega
  simp
theorem No(s:Bs)(e p:Nat):(kN s e p).length<=e-p:=Cj s e _ p (aN _)
def idx(s:Bs)(c:UInt8):Int:=match s.findIdx? (·==c)with
 |some i=>i
 |none => -1
theorem Ui(s:Bs)(i:Nat)(h:i<=s.length):(if idx (s.drop i) 10<0 then(s.length:Int)else i+idx (s.drop i) 10)=en s i:=by
 fun_induction en s i with
 |case1 i c d=>
  have a:=kb c;have d:=d (by omega);rw[<-d];have hd:s.drop i=s[i]::s.drop (i+1):=cz a;have b:(s[i]==(10:UInt8))=false:=by simp[kH,bW,aS a]at c;simp;intro e;have:=cD UInt8.toNat e;simp at this;omega
  unfold idx;rw[hd,List.findIdx?_cons,b];cases f:List.findIdx? (fun x=>x==10) (s.drop (i+1))with
  |none=>simp[f]
  |some j=>simp[f];omega
 |case2 i c=>
  simp at c;rcases aU i s.length with a|a
  ·have hd:s.drop i=s[i]::s.drop (i+1):=cz a;have b:(s[i]==(10:UInt8))=true:=by simp[kH,bW,aS a]at c;simp;apply UInt8.toNat_inj.1;simp;omega
   unfold idx;rw[hd,List.findIdx?_cons,b];simp
  unfold idx;rw[fC a];simp;omega
end Go.Pl
end
section
namespace Go.Vg
variable[Go.Vg.df]
theorem AN{α:Type}[Inhabited α](p:α->Bool):∀(l:List α),(List.range l.length).find? (fun i=>p l[i]!)=l.findIdx? p
 |[]=>rfl
 |x::xs=>by
  rw[aK,List.range_succ_eq_map,List.find?_cons,List.findIdx?_cons];simp only[List.getElem!_cons_zero,List.find?_map];cases h:p x with
  |true=>rfl
  |false=>simp only[bU,bG];rw[<-AN p xs];congr 1
theorem firstIdx_eq(l:List UInt8)(c:UInt8):firstIdx ⟨l.toArray⟩ c=Pl.idx l c:=by
 unfold firstIdx Pl.idx;have h:(ByteArray.mk l.toArray).size=l.length:=by simp[ByteArray.size]
 have b:(fun i=>(ByteArray.mk l.toArray)[i]! == c)=fun(i:Nat)=>(fun x:UInt8=>x==c) l[i]! := by
  funext i;simp only[getElem!_def,getElem?_def,h];by_cases a:i<l.length
  ·simp[a,ByteArray.getElem_eq_getElem_data]
  simp[a]
 rw[h,b];have d:=AN (fun x:UInt8=>x==c) l;rw[d];rfl
theorem QN{P:Program}{f:FuncId}{fn:Func}(g:P.funcs[f]?=some fn)(a:(fn.name == "runtime.NumGoroutine")=false)(d:fn.body.isNone=true)(h:Extern.findNext fn=none)(he:Extern.find fn=some Extern.BytealgIndexByte.indexByte)(x:List UInt8×Int) :
  yt P f [.s x.1,.i .u8 x.2] (.i .i64 (Pl.idx x.1 (UInt8.ofNat x.2.toNat))):=by
 refine⟨rfl,rfl,fun fz w vs _ c=>?_⟩;simp only[dm,rel]at c;obtain⟨v,r,e,rfl,v2,i,rfl,rfl,rfl⟩:=c;have b:vs=#[.string ⟨x.1.toArray⟩,.int .u8 x.2]:=by rw[<-ed];exact e
 subst b;refine⟨.int .i64 (firstIdx ⟨x.1.toArray⟩ x.2.toNat.toUInt8), ?_, ?_⟩
 ·rw[run_callFunc_extern g a d h he,run_indexByte_string];simp only[Result.andThen_ok]
 simp only[rel,firstIdx_eq]
noncomputable def KW:PE:=KS (fun(x:List UInt8×Int)=>[.s x.1,.i .u8 x.2]) (fun _=>True) (fun x=>.i .i64 (Pl.idx x.1 (UInt8.ofNat x.2.toNat)))
theorem OP{s:List UInt8}{c:Int}:KW [.s s,.i .u8 c]=some (True,.i .i64 (Pl.idx s (UInt8.ofNat c.toNat))):=tB (by rintro⟨a,b⟩ ⟨c,d⟩ h;simp_all) (s,c)
theorem OQ{P:Program}{f:FuncId}(h:∀x:List UInt8×Int,yt P f [.s x.1,.i .u8 x.2] (.i .i64 (Pl.idx x.1 (UInt8.ofNat x.2.toNat)))):fO P f KW:=by
 intro args q y a hp;unfold KW KS at a;split at a
 ·rename_i c;simp only[db,eb]at a;obtain⟨rfl,rfl⟩:=a;have b:=eF c;have:=h (Classical.choose c);simp only at b;rw[b]at this;exact .inr this
 cases a
end Go.Vg
end
section
namespace Go.Pl
structure Ev where
 kind:Int
 lg:Int
 flag:Bool
 text:Bs
 anchor:Bs
 tag:Bs
 pos:Int
 code:Int
deriving DecidableEq
def ec:Ev:=⟨0,0,false,[],[],[],0,0⟩
def re(b:Int):Bool:=b==44||b==91||b==93||b==123||b==125
def WB(b:Int):Bool:=b==32||b==9||(b==10||decide (b<0))||re b
def zC(s:Bs):Bool:=decide (s.length<=60/\∀j,j<s.length->WB (s.getD j 0).toNat=false)
theorem F1:zC []=true:=by decide
def kz(e:Ev):Bool:=
 decide (1<=e.kind/\e.kind<=10) &&
 (if e.kind=3\/e.kind=4 then decide (6<=e.lg/\e.lg<=7)else if e.kind=5 then decide (1<=e.lg/\e.lg<=5)else decide (e.lg=0)) &&
 (!e.flag||decide (e.kind=2\/e.kind=8))&&(decide (e.text=[])||decide (e.kind=5\/e.kind=6)) &&
 (decide (e.anchor=[]/\e.tag=[])||decide (e.kind=3\/e.kind=4\/e.kind=5)) &&
 (if e.kind=10 then decide (1<=e.code/\e.code<=99/\0<=e.pos)else
  (!decide (e.kind=6)||(!decide (e.text=[])&&zC e.text))&&zC e.anchor&&decide (e.tag.length<=120)&&decide (e.code=0/\e.pos=0))
end Go.Pl
namespace Go.Pl
theorem NR{s:Bs}(h:s.length<=60)(a:∀j,j<s.length->WB (s.getD j 0).toNat=false):zC s=true:=by unfold zC;rw[aE];exact⟨h,a⟩
end Go.Pl
namespace Go.Pl
theorem Rm{s:Bs}{i:Nat}(h:i<s.length):(gN s i||re (s.getD i 0).toNat)=WB (s.getD i 0).toNat:=by unfold gN nD kH WB;rw[cW h]
end Go.Pl
namespace Go.Pl
end Go.Pl
end
section
namespace Go.Vg
variable[Go.Vg.df]
open Go.Pl
def jO(e:Ev):List SV:=[.i .i64 e.kind,.i .i64 e.lg,.b e.flag,.s e.text,.s e.anchor,.s e.tag,.i .i64 e.pos,.i .i64 e.code]
theorem mo{l m:List Ev}:l.map jO=m.map jO↔l=m:=map_inj fun a b h=>by cases a;cases b;simpa[jO]using h
theorem FQ(a:List Ev)(i:Nat):(a.map jO).getD i [.i .i64 0,.i .i64 0,.b false,.s [],.s [],.s [],.i .i64 0,.i .i64 0]=[.i .i64 (a.getD i ec).kind,.i .i64 (a.getD i ec).lg,.b (a.getD i ec).flag,.s (a.getD i ec).text,.s (a.getD i ec).anchor,.s (a.getD i ec).tag,.i .i64 (a.getD i ec).pos,.i .i64 (a.getD i ec).code]:=getD_map jO a i ec
theorem K9{a:List Ev}{i:Nat}:bT jO ec a i=[.i .i64 (a.getD i ec).kind,.i .i64 (a.getD i ec).lg,.b (a.getD i ec).flag,.s (a.getD i ec).text,.s (a.getD i ec).anchor,.s (a.getD i ec).tag,.i .i64 (a.getD i ec).pos,.i .i64 (a.getD i ec).code]:=id rfl
theorem Le{μ:Nat->Nat}{r:Bool}{sz n:Nat}{a:List Ev}:SO.bP μ (.row r sz n (bT jO ec a))=.row r sz n (bT jO ec a):=EH fun _=>rfl
theorem R7(e:Ev):(⟨e.kind,e.lg,e.flag,e.text,e.anchor,e.tag,e.pos,e.code⟩:Ev)=e:=id rfl
theorem jE:type_of% (ai (ai @FQ @K9) (ai @Le @R7)):=ai (ai @FQ @K9) (ai @Le @R7)
theorem MB{μ:Nat->Nat}{α:Type}{enc:α->List SV}{z:α}{xs:List α}{sz n i:Nat}{f:Nat->List SV}(hp:∀x,eJ (enc x)=true)(h:i<xs.length)(e:∀j,j<n->f j=if j=i then enc (xs.getD i z)else bT enc z (xs.take i) j) :
  nz μ (.row false sz n (bT enc z (xs.take (i+1)))) (.row false sz n f):=by
 refine bM fun j g=>?_;rw[e j g];unfold bT;rw[e8 (hp _)];have c:(xs.take (i+1)).getD j z=if j<i+1 then xs.getD j z else z:=by simp only[aG,cH];split<;>rfl
 have d:(xs.take i).getD j z=if j<i then xs.getD j z else z:=by simp only[aG,cH];split<;>rfl
 rw[c,d];by_cases a:j=i
 ·subst a;rw[aB (by omega),aB rfl]
 rw[aA a];by_cases b:j<i
 ·rw[aB (by omega),aB b]
 rw[aA (by omega),aA b]
end Go.Vg
end
section
namespace Go.Pl
end Go.Pl
namespace Go.Pl
theorem kW{α:Type}{z:α}{l:List α}{i:Nat}(h:i<l.length):l.getD i z∈l:=by simp[List.getD,h]
theorem Dn{α:Type}(z:α){l:List α}{i:Nat}(h:i<l.length):l.take (i+1)=l.take i++[l.getD i z]:=by rw[List.take_succ_eq_append_getElem h];simp[List.getD,h]
end Go.Pl
namespace Go.Pl
end Go.Pl
namespace Go.Pl
end Go.Pl
end
section
namespace Go.Pl
structure Sg where
 kind:Int
 n:Int
 text:Bs
deriving DecidableEq
def Ea:List Sg->Bool->List Sg
 |[],_=>[]
 |s::p,b=>if b&&decide (s.kind=5)then Ea p b else s::Ea p (decide (s.kind=5))
end Go.Pl
namespace Go.Pl
end Go.Pl
namespace Go.Pl
end Go.Pl
namespace Go.Pl
end Go.Pl
namespace Go.Pl
end Go.Pl
end
section
namespace Go.Vg
variable[Go.Vg.df]
open Go.Pl
end Go.Vg
namespace Go.Vg
variable[Go.Vg.df]
end Go.Vg
namespace Go.Vg
variable[Go.Vg.df]
open Go.Pl
end Go.Vg
end
section
namespace Go.Vg
variable[Go.Vg.df]
open Go.Pl
def wr(a:Int):Int:=IntKind.wrap .i64 a
end Go.Vg
namespace Go.Vg
variable[Go.Vg.df]
open Go.Pl
end Go.Vg
namespace Go.Vg
variable[Go.Vg.df]
open Go.Pl
end Go.Vg
namespace Go.Vg
variable[Go.Vg.df]
open Go.Pl
end Go.Vg
namespace Go.Vg
variable[Go.Vg.df]
open Go.Pl
end Go.Vg
namespace Go.Vg
variable[Go.Vg.df]
open Go.Pl
end Go.Vg
namespace Go.Vg
variable[Go.Vg.df]
end Go.Vg
namespace Go.Vg
variable[Go.Vg.df]
open Go.Pl
end Go.Vg
namespace Go.Vg
variable[Go.Vg.df]
open Go.Pl
theorem LX{α β:Type}{f:α->β}{l:List α}{j:Nat}(z:α){d:β}(h:j<l.length):(l.map f).getD j d=f (l.getD j z):=by simp[List.getD,h]
end Go.Vg
namespace Go.Vg
variable[Go.Vg.df]
open Go.Pl
end Go.Vg
namespace Go.Vg
variable[Go.Vg.df]
open Go.Pl
end Go.Vg
namespace Go.Vg
variable[Go.Vg.df]
open Go.Pl
end Go.Vg
namespace Go.Vg
variable[Go.Vg.df]
open Go.RowKit
end Go.Vg
namespace Go.Vg
variable[Go.Vg.df]
open Go.Pl
end Go.Vg
namespace Go.Vg
variable[Go.Vg.df]
open Go.Pl
end Go.Vg
end
section
namespace Go.Pl
def pL(s:Bs)(c:Int):Nat->Int
 |0 => -1
 |i+1=>if((s.getD i 0).toNat:Int)=c then(i:Int)else pL s c i
def CM(s:Bs)(c:Int):Int:=pL s c s.length
theorem Kg(s:Bs)(c:Int):∀i,-1<=pL s c i
 |0=>by simp[pL]
 |i+1=>by unfold pL;split;omega;exact Kg s c i
theorem Kh(s:Bs)(c:Int):∀i,pL s c i<i
 |0=>by simp[pL]
 |i+1=>by unfold pL;split;omega;have:=Kh s c i;omega
def la(s:Bs):Nat->Nat
 |0=>0
 |i+1=>if bW s i=10 then i+1 else la s i
theorem nP(s:Bs):∀i,la s i<=i
 |0=>aN _
 |i+1=>by unfold la;split;omega;have:=nP s i;omega
theorem NX{s:Bs}{p:Nat}(h:p<=s.length):CM (s.take p) 10+1=la s p:=by
 have a:∀i,i<=p->pL (s.take p) 10 i+1=la s i:=by
  intro i
  induction i with
  |zero=>intro _;rfl
  |succ i b=>
   intro c;have e:(s.take p).getD i 0=s.getD i 0:=by simp only[aG,cH];rw[aB (by omega)]
   unfold pL la;rw[e,cW (by omega)];split
   ·rfl
   exact b (by omega)
 unfold CM;rw[aZ,Nat.min_eq_left h];exact a p (aN _)
theorem WN{s:Bs}{i:Nat}(h:i<s.length)(a:(s.getD i 0).toNat=10):la s (i+1)=i+1:=by unfold la;rw[cW h,aB (by omega)]
theorem WM{s:Bs}{i:Nat}(h:i<s.length)(a:(s.getD i 0).toNat≠10):la s (i+1)=la s i:=by
 conv=>lhs;unfold la
 rw[cW h,aA (by omega)]
def ib(s:Bs)(p:Nat):Int:=
 if la s p=p/\p+3<=s.length/\gN s (p+3)=true then(if sub s p (p+3)=[45,45,45]then 1 else if sub s p (p+3)=[46,46,46]then 2 else 0)else 0
theorem kJ(s:Bs)(p:Nat):ib s p=0\/ib s p=1\/ib s p=2:=by unfold ib;repeat' split<;>simp_all
theorem D5{s:Bs}{p:Nat}(h:¬(la s p=p/\p+3<=s.length/\gN s (p+3)=true)):ib s p=0:=by unfold ib;rw[aA h]
def mw(s:Bs)(i:Nat):Nat:=if h:gN s i=false/\re (bW s i)=false then mw s (i+1)else i
termination_by s.length-i
decreasing_by have:=gD h.1;omega
theorem Pv{s:Bs}{i:Nat}(h:gN s i=false/\re (bW s i)=false):mw s i=mw s (i+1):=by rw[mw,bV h]
theorem SX{s:Bs}{i:Nat}(h:¬(gN s i=false/\re (bW s i)=false)):mw s i=i:=by rw[mw,cV h]
theorem I5(s:Bs)(i:Nat):i<=mw s i:=by
 fun_induction mw s i with
 |case1 i h a=>omega
 |case2 i h=>omega
theorem r8(s:Bs)(i:Nat)(h:i<=s.length):mw s i<=s.length:=by
 fun_induction mw s i with
 |case1 i a b=>exact b (gD a.1)
 |case2 i a=>exact h
def jm(s:Bs)(p:Nat):Bs×Int×Bool:=
 if(bW s p=38\/bW s p=42)/\p+2<=mw s (p+1)/\mw s (p+1)<=p+61 then(sub s (p+1) (mw s (p+1)),mw s (p+1),true)else([],0,false)
structure Pc where
 text:Bs
 glue:Bool
deriving DecidableEq
def iH:Pc:=⟨[],false⟩
def kG(glue:Bool)(n:Nat):List Pc->Bs
 |[]=>[]
 |x::r=>if x.text=[]/\x.glue=false/\r≠[]then kG glue (n+1) r
  else(if 0<n then List.replicate n 10 else if glue then[]else[32])++(x.text++kG x.glue 0 r)
def mh:List Pc->Bs
 |[]=>[]
 |x::r=>x.text++kG x.glue 0 r
def mm(l:List Pc):Nat:=(l.map fun x=>x.text.length+1).sum
theorem LU(glue:Bool):∀(l:List Pc) (n:Nat),(kG glue n l).length<=n+mm l:=by
 intro l
 induction l generalizing glue with
 |nil=>intro n;simp[kG]
 |cons x r a=>
  intro n;unfold kG;have hw:mm (x::r)=x.text.length+1+mm r:=by simp[mm]
  split
  ·have:=a glue (n+1);omega
  have:=a x.glue 0;simp only[aC];split
  ·simp;omega
  split<;>simp<;>omega
theorem vT(l:List Pc):(mh l).length<=mm l:=by
 cases l with
 |nil=>simp[mh]
 |cons x r=>
  have:=LU x.glue r 0;have hw:mm (x::r)=x.text.length+1+mm r:=by simp[mm]
  simp only[mh,aC];omega
theorem gh(l m:List Pc):mm (l++m)=mm l+mm m:=by simp[mm]
theorem z7{l:List Pc}{i:Nat}(h:i<l.length):mm (l.drop i)=(l.getD i iH).text.length+1+mm (l.drop (i+1)):=by
 have e:l.getD i iH=l[i]:=by simp[List.getD,h]
 rw[cz h,e];unfold mm;rw[cC,eX]
theorem pS(l:List Pc):l.length<=mm l:=by
 induction l with
 |nil=>simp
 |cons x r c=>
  have hw:mm (x::r)=x.text.length+1+mm r:=by simp[mm]
  simp only[aK];omega
def IR:Bs:=[44,91,93,123,125,35,38,42,33,124,62,39,34,37,64,96]
def yE(s:Bs)(p:Nat)(b:Bool):Bool:=
 !gN s p&&!decide (s.getD p 0∈IR)&&(!(decide (bW s p=45)||decide (bW s p=63)||decide (bW s p=58))||(!gN s (p+1)&&!(b&&re (bW s (p+1)))))
def IB(s:Bs)(p:Nat)(a:Bool)(q:Nat):Bool:=
 (decide (bW s q=35)&&decide (p<q)&&nD s (q-1))||(decide (bW s q=58)&&(gN s (q+1)||(a&&re (bW s (q+1)))))||(a&&re (bW s q))
def HQ(s:Bs)(p:Nat)(a:Bool)(q:Nat):Nat:=if h:kH s q=false/\IB s p a q=false then HQ s p a (q+1)else q
termination_by s.length-q
decreasing_by have:=kb h.1;omega
theorem ON{s:Bs}{p:Nat}{a:Bool}{q:Nat}(h:kH s q=false/\IB s p a q=false):HQ s p a q=HQ s p a (q+1):=by rw[HQ,bV h]
theorem Gx{s:Bs}{p:Nat}{a:Bool}{q:Nat}(h:¬(kH s q=false/\IB s p a q=false)):HQ s p a q=q:=by rw[HQ,cV h]
theorem OM(s:Bs)(p:Nat)(a:Bool)(q:Nat):q<=HQ s p a q:=by
 fun_induction HQ s p a q with
 |case1 i h b=>omega
 |case2 i h=>omega
theorem UL(s:Bs)(p:Nat)(a:Bool)(q:Nat)(h:q<=s.length):HQ s p a q<=s.length:=by
 fun_induction HQ s p a q with
 |case1 i d e=>exact e (kb d.1)
 |case2 i d=>exact h
def EY(s:Bs)(p:Nat):Nat->Nat
 |0=>0
 |q+1=>if p<q+1/\nD s q=true then EY s p q else q+1
theorem M1(s:Bs)(p:Nat):∀q,EY s p q<=q
 |0=>aN _
 |q+1=>by unfold EY;split;have:=M1 s p q;omega;omega
theorem M0(s:Bs)(p:Nat):∀q,p<=q->p<=EY s p q
 |0,h=>h
 |q+1,h=>by unfold EY;split;rename_i a;exact M0 s p q (by omega);exact h
theorem Fz{s:Bs}{p q:Nat}(a:p<q)(h:nD s (q-1)=true):EY s p q=EY s p (q-1):=by
 cases q with
 |zero=>omega
 |succ q=>
       conv=>lhs;unfold EY
       rw[aB ⟨a,by simpa using h⟩];rfl
theorem Fy{s:Bs}{p q:Nat}(h:¬(p<q/\nD s (q-1)=true)):EY s p q=q:=by
 cases q with
 |zero=>rfl
 |succ q=>unfold EY;rw[aA (by simpa using h)]
def kj(s:Bs)(p:Nat)(a:Bool):Nat:=EY s p (HQ s p a p)
theorem Ey(s:Bs)(p:Nat)(a:Bool):p<=kj s p a:=M0 s p _ (OM s p a p)
theorem oG(s:Bs)(p:Nat)(a:Bool)(h:p<=s.length):kj s p a<=s.length:=cv (M1 s p _) (UL s p a p h)
def oJ(r:Int):Bs:=
 if r<0\/1114111<r\/(55296<=r/\r<=57343)then[]
 else if r<128 then[UInt8.ofNat r.toNat]
 else if r<2048 then[UInt8.ofNat (192+r.toNat / 64),UInt8.ofNat (128+r.toNat % 64)]
 else if r<65536 then[UInt8.ofNat (224+r.toNat / 4096),UInt8.ofNat (128+r.toNat / 64 % 64),UInt8.ofNat (128+r.toNat % 64)]
 else[UInt8.ofNat (240+r.toNat / 262144),UInt8.ofNat (128+r.toNat / 4096 % 64),UInt8.ofNat (128+r.toNat / 64 % 64),UInt8.ofNat (128+r.toNat % 64)]
theorem K7(r:Int):(oJ r).length<=4:=by unfold oJ;split;simp;split;simp;split;simp;split<;>simp
def BB(b:Int):Int:=if 48<=b/\b<=57 then b-48 else if 97<=b/\b<=102 then b-97+10 else if 65<=b/\b<=70 then b-65+10 else -1
def sI(s:Bs)(p:Nat):Nat->Int->Int
 |0,a=>a
 |n+1,a=>if BB (bW s p)<0 then -1 else sI s (p+1) n (16*a+BB (bW s p))
def E6:List (Int×Int):=[(48,0),(97,7),(98,8),(116,9),(9,9),(110,10),(118,11),(102,12),(114,13),(101,27),(32,32),(34,34),(47,47),(92,92),(78,133),(95,160),(76,8232),(80,8233)]
def Mz(b:Int):Int:=match E6.find? (fun p=>p.1==b)with
 |some p=>p.2
 |none => -1
theorem G7{b:Int}(h:∀p∈E6,p.1≠b):Mz b = -1:=by
 have:E6.find? (fun p=>p.1==b)=none:=List.find?_eq_none.2 fun p hp=>by simpa using h p hp
 unfold Mz;rw[this]
theorem Va{b:Int}{i:Nat}(l:i<18)(g:(E6.getD i (0,0)).1=b)(k:∀j,j<i->(E6.getD j (0,0)).1≠b):Mz b=(E6.getD i (0,0)).2:=by
 have d:∀j,j<18->∃h:j<E6.length,E6.getD j (0,0)=E6[j]:=fun j a=>⟨a,by simp[List.getD,show j<E6.length from a];rfl⟩
 obtain⟨c,e⟩:=d i l;have:E6.find? (fun p=>p.1==b)=some E6[i]:=List.find?_eq_some_iff_getElem.2 ⟨by rw[<-e];simpa using g,i,c,rfl,fun j a=>by obtain⟨m,f⟩:=d j (by omega);have:=k j a;rw[f]at this;simpa using this⟩
 unfold Mz;rw[this,e]
theorem MA{b:Int}(h:b≠48/\b≠97/\b≠98/\b≠116/\b≠9/\b≠110/\b≠118/\b≠102/\b≠114/\b≠101/\b≠32/\b≠34/\b≠47/\b≠92/\b≠78/\b≠95/\b≠76/\b≠80):Mz b = -1:=by apply G7;intro p hp;simp only[E6,eA,List.not_mem_nil,or_false]at hp;rcases hp with rfl|rfl|rfl|rfl|rfl|rfl|rfl|rfl|rfl|rfl|rfl|rfl|rfl|rfl|rfl|rfl|rfl|rfl<;>simp only<;>omega
def CA(b:Int):Nat:=if b=120 then 2 else if b=117 then 4 else if b=85 then 8 else 0
def nY(s:Bs)(p:Nat):Bs×Nat:=
 if bW s p=92/\p+1<s.length then
  (if 0<=Mz (bW s (p+1))then(oJ (Mz (bW s (p+1))),p+2)
   else if CA (bW s (p+1))=0\/oJ (sI s (p+2) (CA (bW s (p+1))) 0)=[]then([],0)
   else(oJ (sI s (p+2) (CA (bW s (p+1))) 0),p+2+CA (bW s (p+1))))
 else([],0)
def Bv(k:Nat):Nat->Bs->Bs
 |0,b=>b
 |n+1,b=>if k<b.length/\(b.getD (b.length-1) 0=32\/b.getD (b.length-1) 0=9)then Bv k n (b.take (b.length-1))else b
def jl(k:Nat)(b:Bs):Bs:=Bv k b.length b
end Go.Pl
namespace Go.Pl
theorem Ky{s:Bs}{p:Nat}(h:(bW s p=38\/bW s p=42)/\p+2<=mw s (p+1)/\mw s (p+1)<=p+61):jm s p=(sub s (p+1) (mw s (p+1)),(mw s (p+1):Int),true):=by unfold jm;rw[aB h]
theorem CX{s:Bs}{p:Nat}(h:¬((bW s p=38\/bW s p=42)/\p+2<=mw s (p+1)/\mw s (p+1)<=p+61)):jm s p=([],0,false):=by unfold jm;rw[aA h]
theorem Uj(c:UInt8):∀l:Bs,decide (idx l c>=0)=decide (c∈l):=by
 intro l;unfold idx;cases h:l.findIdx? (·==c)with
 |none=>
  have:=List.findIdx?_eq_none_iff.1 h;have a:¬c∈l:=fun d=>by simpa using this c d
  simp[a]
 |some i=>
  have:=List.findIdx?_eq_some_iff_getElem.1 h;obtain⟨f,b,_⟩:=this;have a:c∈l:=by
   have e:l[i]=c:=by simpa using b
   rw[<-e];exact gf f
  simp[a]
end Go.Pl
namespace Go.Pl
theorem Ex{s:Bs}{p:Nat}{fl:Bool}(h:gN s p=true):yE s p fl=false:=by unfold yE;rw[h];rfl
theorem OS{s:Bs}{p:Nat}{fl:Bool}(h:s.getD p 0∈IR):yE s p fl=false:=by unfold yE;rw[aJ h];simp
theorem GF{s:Bs}{p:Nat}{fl:Bool}(b:gN s p=false)(h:¬s.getD p 0∈IR)(a:bW s p=45\/bW s p=63\/bW s p=58):yE s p fl=(!gN s (p+1)&&!(fl&&re (bW s (p+1)))):=by
 unfold yE;rw[b,aI h];have:(decide (bW s p=45)||decide (bW s p=63)||decide (bW s p=58))=true:=by rcases a with h|h|h<;>simp[h]
 rw[this];simp
theorem KY{s:Bs}{p:Nat}{fl:Bool}(b:gN s p=false)(h:¬s.getD p 0∈IR)(a:¬(bW s p=45\/bW s p=63\/bW s p=58)):yE s p fl=true:=by
 unfold yE;rw[b,aI h];have:(decide (bW s p=45)||decide (bW s p=63)||decide (bW s p=58))=false:=by simp at a;simp[a]
 rw[this];simp
theorem jW{c:UInt8}{n:Nat}(a:n<256):((c.toNat:Int)=n)=(c=UInt8.ofNat n):=by
 apply propext;constructor
 ·intro h;apply UInt8.toNat_inj.1;rw[UInt8.toNat_ofNat_of_lt' (by simpa using a)];omega
 rintro rfl;rw[UInt8.toNat_ofNat_of_lt' (by simpa using a)]
theorem Tu(c:UInt8):UInt8.ofNat c.toNat=c:=by simp
theorem Rr(c:UInt8):(decide ((c.toNat:Int)=64)||decide ((c.toNat:Int)=96)||decide (c∈[44,91,93,123,125,35,38,42,33,124,62,39,34,37]))=decide (c∈IR):=by
 have a:=jW (c:=c) (n:=64) (by decide);have b:=jW (c:=c) (n:=96) (by decide);simp only[dM]at a b;rw[bO];simp only[aV,aE,a,b,IR,eA,List.not_mem_nil,or_false];constructor
 ·rintro((h|h)|h)
  ·simp[h]
  ·simp[h]
  rcases h with h|h|h|h|h|h|h|h|h|h|h|h|h|h<;>simp[h]
 rintro(h|h|h|h|h|h|h|h|h|h|h|h|h|h|h|h)<;>simp[h]
end Go.Pl
namespace Go.Pl
theorem lT{r:Int}(h:r<0\/1114111<r\/(55296<=r/\r<=57343)):oJ r=[]:=by unfold oJ;rw[aB h]
theorem GN{n:Nat}(h:¬((n:Int)<0\/1114111<(n:Int)\/(55296<=(n:Int)/\(n:Int)<=57343)))(a:n<128):oJ n=[UInt8.ofNat n]:=by unfold oJ;rw[aA h,aB (by omega)];rfl
theorem GO{n:Nat}(h:¬((n:Int)<0\/1114111<(n:Int)\/(55296<=(n:Int)/\(n:Int)<=57343)))(a:¬n<128)(b:n<2048):oJ n=[UInt8.ofNat (192+n / 64),UInt8.ofNat (128+n % 64)]:=by unfold oJ;rw[aA h,aA (by omega),aB (by omega)];rfl
theorem GP{n:Nat}(h:¬((n:Int)<0\/1114111<(n:Int)\/(55296<=(n:Int)/\(n:Int)<=57343)))(a:¬n<2048)(b:n<65536):oJ n=[UInt8.ofNat (224+n / 4096),UInt8.ofNat (128+n / 64 % 64),UInt8.ofNat (128+n % 64)]:=by unfold oJ;rw[aA h,aA (by omega),aA (by omega),aB (by omega)];rfl
theorem GQ{n:Nat}(h:¬((n:Int)<0\/1114111<(n:Int)\/(55296<=(n:Int)/\(n:Int)<=57343)))(a:¬n<65536):oJ n=[UInt8.ofNat (240+n / 262144),UInt8.ofNat (128+n / 4096 % 64),UInt8.ofNat (128+n / 64 % 64),UInt8.ofNat (128+n % 64)]:=by unfold oJ;rw[aA h,aA (by omega),aA (by omega),aA (by omega)];rfl
theorem Rz(r:Int):oJ r=[]↔(r<0\/1114111<r\/(55296<=r/\r<=57343)):=by
 constructor
 ·intro h;by_cases a:r<0\/1114111<r\/(55296<=r/\r<=57343)
  ·exact a
  unfold oJ at h;rw[aA a]at h;exfalso;revert h;split;simp;split;simp;split;simp;simp
 exact lT
theorem DY{s:Bs}{p:Nat}{n:Nat}{a:Int}(h:BB (bW s p)<0):sI s p (n+1) a = -1:=by unfold sI;rw[aB h]
theorem oV{s:Bs}{p:Nat}{n:Nat}{a:Int}(h:0<=BB (bW s p)):sI s p (n+1) a=sI s (p+1) n (16*a+BB (bW s p)):=by show(if BB (bW s p)<0 then -1 else sI s (p+1) n (16*a+BB (bW s p)))=_;rw[aA (by omega)]
theorem Cx{b:Int}(a:48<=b)(c:b<=57):BB b=b-48:=by unfold BB;rw[aB ⟨a,c⟩]
theorem Cy{b:Int}(a:97<=b)(c:b<=102):BB b=b-97+10:=by unfold BB;rw[aA (by omega),aB ⟨a,c⟩]
theorem Cz{b:Int}(a:65<=b)(c:b<=70):BB b=b-65+10:=by unfold BB;rw[aA (by omega),aA (by omega),aB ⟨a,c⟩]
theorem Si{b:Int}(a:¬(48<=b/\b<=57))(c:¬(97<=b/\b<=102))(d:¬(65<=b/\b<=70)):BB b = -1:=by unfold BB;rw[aA a,aA c,aA d]
theorem V1{i:Nat}(h:i<=8):16 ^ i<=4294967296:=cv (Nat.pow_le_pow_right (by decide) h) (by decide)
end Go.Pl
namespace Go.Pl
theorem JK{s:Bs}{p:Nat}(h:¬(bW s p=92/\p+1<s.length)):nY s p=([],0):=by unfold nY;rw[aA h]
theorem Cm{s:Bs}{p:Nat}(h:bW s p=92/\p+1<s.length)(a:0<=Mz (bW s (p+1))):nY s p=(oJ (Mz (bW s (p+1))),p+2):=by unfold nY;rw[aB h,aB a]
theorem Ie{s:Bs}{p:Nat}(h:bW s p=92/\p+1<s.length)(a:¬0<=Mz (bW s (p+1)))(b:CA (bW s (p+1))=0\/oJ (sI s (p+2) (CA (bW s (p+1))) 0)=[]):nY s p=([],0):=by unfold nY;rw[aB h,aA a,aB b]
theorem JL{s:Bs}{p:Nat}(h:bW s p=92/\p+1<s.length)(a:¬0<=Mz (bW s (p+1)))(b:¬(CA (bW s (p+1))=0\/oJ (sI s (p+2) (CA (bW s (p+1))) 0)=[])):nY s p=(oJ (sI s (p+2) (CA (bW s (p+1))) 0),p+2+CA (bW s (p+1))):=by unfold nY;rw[aB h,aA a,aA b]
theorem Ug(b:Int):CA b<=8:=by unfold CA;split;omega;split;omega;split<;>omega
theorem DS(s:Bs)(p:Nat):(nY s p).1.length<=4:=by
 unfold nY;split
 ·split
  ·exact K7 _
  split
  ·simp
  exact K7 _
 simp
theorem DR(s:Bs)(p:Nat):(nY s p).2=0\/p+2<=(nY s p).2:=by
 unfold nY;split
 ·split
  ·right;simp
  split
  ·left;rfl
  right;simp only;omega
 left;rfl
theorem QY{s:Bs}{p:Nat}:∀{n:Nat} {a:Int},0<=a->0<n->0<=sI s p n a->p+n<=s.length
 |n,a,d,b,h=>by
  have key:∀(n:Nat) (p:Nat) (a:Int),0<=a->0<n->0<=sI s p n a->p+n<=s.length:=by
   intro n
   induction n with
   |zero=>intro p a _ h _;omega
   |succ n e=>
    intro p a d _ h;unfold sI at h;split at h
    ·omega
    rename_i hd;have hp:p<s.length:=by
     rcases aU p s.length with c|c
     ·exact c
     rw[eZ c]at hd;exact absurd (by decide) hd
    rcases dO n with b|b
    ·omega
    have:=e (p+1) _ (by omega) b h;omega
  exact key n p a d b h
theorem zm(s:Bs)(p:Nat):(nY s p).2<=s.length:=by
 unfold nY;split
 ·rename_i h;split
  ·simp only;omega
  split
  ·simp
  rename_i b;simp only[not_or]at b;have c:0<=sI s (p+2) (CA (bW s (p+1))) 0:=by
   rcases Int.lt_or_le (sI s (p+2) (CA (bW s (p+1))) 0) 0 with a|a
   ·exact absurd (lT (.inl a)) b.2
   exact a
  exact QY (Int.le_refl 0) (by omega) c
 simp
end Go.Pl
namespace Go.Pl
theorem zo{l:List Pc}{i:Nat}(h:i<l.length){g:Bool}{n:Nat}:kG g n (l.drop i)=if(l.getD i iH).text=[]/\(l.getD i iH).glue=false/\i+1<l.length then kG g (n+1) (l.drop (i+1))
  else(if 0<n then List.replicate n 10 else if g then[]else[32])++((l.getD i iH).text++kG (l.getD i iH).glue 0 (l.drop (i+1))):=by
 have e:l.getD i iH=l[i]:=by simp[List.getD,h]
 rw[cz h,e];have a:(l.drop (i+1)≠[])=(i+1<l.length):=propext (by rw[ne_eq,List.drop_eq_nil_iff];omega)
 conv=>lhs;unfold kG
 simp only[a]
theorem zp{l:List Pc}{i:Nat}{g:Bool}{n:Nat}(h:i+1<l.length)(a:(l.getD i iH).text=[])(b:(l.getD i iH).glue=false):kG g n (l.drop i)=kG g (n+1) (l.drop (i+1)):=by rw[zo (by omega),aB ⟨a,b,h⟩]
theorem Cn{l:List Pc}{i:Nat}{g:Bool}{n:Nat}(h:i<l.length)(a:¬((l.getD i iH).text=[]/\(l.getD i iH).glue=false/\i+1<l.length)):kG g n (l.drop i)=(if 0<n then List.replicate n 10 else if g then[]else[32])++((l.getD i iH).text++kG (l.getD i iH).glue 0 (l.drop (i+1))):=by rw[zo h,aA a]
theorem zq{l:List Pc}(h:0<l.length):mh l=(l.getD 0 iH).text++kG (l.getD 0 iH).glue 0 (l.drop 1):=by
 cases l with
 |nil=>simp at h
 |cons x r=>rfl
theorem M7{k:Nat}{b:Bs}(h:k<b.length/\(b.getD (b.length-1) 0=32\/b.getD (b.length-1) 0=9)):jl k b=jl k (b.take (b.length-1)):=by
 unfold jl;obtain⟨n,c⟩:∃n,b.length=n+1:=⟨b.length-1,by omega⟩
 have a:(b.take (b.length-1)).length=n:=by rw[aZ];omega
 rw[a]
 conv=>lhs;rw[c];unfold Bv
 rw[aB h]
theorem DN{k:Nat}{b:Bs}(h:¬(k<b.length/\(b.getD (b.length-1) 0=32\/b.getD (b.length-1) 0=9))):jl k b=b:=by
 unfold jl;cases a:b.length with
 |zero=>rfl
 |succ n=>unfold Bv;rw[aA h]
theorem y9(k:Nat):∀(n:Nat) (b:Bs),(Bv k n b).length<=b.length
 |0,b=>aN _
 |n+1,b=>by
  unfold Bv;split
  ·have:=y9 k n (b.take (b.length-1));rw[aZ]at this;omega
  exact aN _
theorem mO(k:Nat)(b:Bs):(jl k b).length<=b.length:=y9 k _ b
theorem Dd{n:Nat}{x:UInt8}{o:Bs}:o++[x]++List.replicate n x=o++List.replicate (n+1) x:=by rw[List.replicate_succ,bS];rfl
end Go.Pl
end
section
namespace Go.Vg
variable[Go.Vg.df]
set_option maxRecDepth 100000
def Wz(te:TE)(st:St)(s:TypeId)(x:Operand)(K:SV->Prop):Prop:=match st.ev x,dP te s with
  | .ew h a len,.slice e=>jK te e=true/\0<len/\(match st.ctx.at h with
   |some (.row false _ _ _)=>True
   |_=>False)/\K (.ew h a len)
  |_,_=>False
theorem M8{te:TE}{st:St}{h a len:Nat}{e:TypeId}{s:TypeId}{x:Operand}{sz n:Nat}{f:Nat->List SV}{K:SV->Prop}(j:st.ev x=.ew h a len)(i:dP te s=.slice e)(g:st.ctx.at h=some (.row false sz n f))(b:jK te e=true)(c:0<len)(d:K (.ew h a len)):Wz te st s x K:=by unfold Wz;rw[j,i];simp only[g];exact⟨b,c,trivial,d⟩
theorem DB{te:TE}{st:St}{s:TypeId}{x:Operand}{k:SV->St->Prop}:pv te st (.convert s s x) k=Wz te st s x (fun z=>k z st):=by simp only[pv,Wz,cP];cases st.ev x<;>cases dP te s<;>rfl
theorem O0{nt:Nat}{st:St}{dst:Option Tmp}{z:SV}{k:St->Prop}:qL nt st dst z k=gk nt st dst z ⟨k,⟨⟩⟩:=id rfl
theorem xE{l:List SV}{b:List UInt8}(h:l=b.map fun x=>SV.i .u8 x.toNat):∀j,j<b.length->fF l 1 j=bT l8 0 b j:=by intro j a;subst h;unfold fF bT l8;rw[Nat.mul_one];simp[List.getD,a];rw[cz (by simpa using a)];simp
theorem sn(l:List Int):∀j,j<l.length->qH ((fF (l.map (SV.i .u8)) 1 j).getD 0 .u)=true:=by intro j a;unfold fF;rw[Nat.mul_one,cz (by simpa using a)];simp[qH]
theorem oK(l:List Int):iz (fF (l.map (SV.i .u8)) 1) 0 l.length=l.map fun x=>UInt8.ofNat x.toNat:=by
 apply List.ext_getElem (by simp[iz]);intro j c a;have b:j<l.length:=by simpa using a
 unfold iz fF;simp only[List.getElem_map,List.getElem_range,aX,Nat.mul_one];rw[cz (by simpa using b)];simp
open Go.Pl in
theorem LQ{r:Int}(h:¬(r<0\/1114111<r\/(55296<=r/\r<=57343))):(Utf8.encode r).data.toList=oJ r:=by
 have d:Utf8.valid r=true:=by simp[Utf8.valid];omega
 obtain⟨n,rfl⟩:∃n:Nat,r=n:=⟨r.toNat,by omega⟩
 unfold oJ Utf8.encode;rw[aA h,d];simp only[dy,Int.toNat_natCast];by_cases a:n<128
 ·rw[aB a,aB (show(n:Int)<128 by omega)]
 rw[aA a,aA (show ¬(n:Int)<128 by omega)];by_cases b:n<2048
 ·rw[aB b,aB (show(n:Int)<2048 by omega)]
 rw[aA b,aA (show ¬(n:Int)<2048 by omega)];by_cases c:n<65536
 ·rw[aB c,aB (show(n:Int)<65536 by omega)]
 rw[aA c,aA (show ¬(n:Int)<65536 by omega)]
theorem L3{l:List SV}{b:List Int}(h:l=b.map (SV.i .i64)){j:Nat}(a:j<b.length):fF l 1 j=[.i .i64 (b.getD j 0)]:=by subst h;unfold fF;rw[Nat.mul_one];simp[List.getD,a];rw[cz (by simpa using a)];simp
end Go.Vg
end
section
namespace Go.Vg
variable[Go.Vg.df]
open Go.Pl
def mb(e:Pc):List SV:=[.s e.text,.b e.glue]
theorem KR{l m:List Pc}:l.map mb=m.map mb↔l=m:=map_inj fun a b h=>by cases a;cases b;simpa[mb]using h
theorem FV(a:List Pc)(i:Nat):(a.map mb).getD i [.s [],.b false]=[.s (a.getD i iH).text,.b (a.getD i iH).glue]:=getD_map mb a i iH
theorem Ld{a:List Pc}{i:Nat}:bT mb iH a i=[.s (a.getD i iH).text,.b (a.getD i iH).glue]:=id rfl
theorem Li{μ:Nat->Nat}{r:Bool}{sz n:Nat}{a:List Pc}:SO.bP μ (.row r sz n (bT mb iH a))=.row r sz n (bT mb iH a):=EH fun _=>rfl
theorem SE(e:Pc):(⟨e.text,e.glue⟩:Pc)=e:=id rfl
theorem nX:type_of% (ai (ai @FV @Ld) (ai @Li @SE)):=ai (ai @FV @Ld) (ai @Li @SE)
theorem LN{l m:List UInt8}:l.map l8=m.map l8↔l=m:=map_inj fun a b h=>by simp only[l8,dg,SV.i.injEq,dD,cP]at h;exact UInt8.toNat_inj.1 (by omega)
theorem DU(l:List UInt8):kV (l.map l8)=l:=by
 unfold kV;rw[List.map_map]
 conv=>rhs;rw[<-List.map_id l]
 apply fD;intro x _;simp[l8]
theorem EI{α:Type}{enc:α->List SV}{z:α}{xs:List α}{y:α}{sz:Nat}{f:Nat->List SV}(a:∀j,j<xs.length->f j=bT enc z xs j)(c:(enc y).length=sz) :
  jd (lm xs.length f fun j=>fF (enc y) sz j) 0 (xs.length+1)=(xs++[y]).map enc:=by
 rw[<-et (enc:=enc) (z:=z) (xs:=xs++[y]) (n:=xs.length+1) (by simp)];unfold jd;apply fD;intro j b;rw[aX];exact mF rfl a c (by simpa using b)
theorem nA{μ:Nat->Nat}{α:Type}{enc:α->List SV}{z:α}(xs:List α)(y:α)(sz:Nat){f:Nat->List SV}{cs:List SV}(hp:∀x,eJ (enc x)=true)(a:∀j,j<xs.length->f j=bT enc z xs j)(d:cs=enc y)(c:(enc y).length=sz) :
  nz μ (.row false sz (xs.length+1) (bT enc z (xs++[y]))) (.row false sz (xs.length+1) (lm xs.length f fun j=>fF cs sz j)):=by
 subst d;refine bM fun j b=>?_;rw[mF (z:=z) rfl a c b];exact e8 (hp _)
theorem oL{α:Type}{enc:α->List SV}(z:α)(xs:List α)(y:α)(sz:Nat){f:Nat->List SV}{cs:List SV}(a:∀j,j<xs.length->f j=bT enc z xs j)(c:cs=enc y)(b:(enc y).length=sz) :
  jd (lm xs.length f fun j=>fF cs sz j) 0 (xs.length+1)=(xs++[y]).map enc:=by
 subst c;exact EI (z:=z) a b
theorem tb{α:Type}{enc:α->List SV}(z:α)(xs:List α)(y:α)(sz:Nat){f:Nat->List SV}{cs:List SV}(hp:∀x,eJ (enc x)=true)(b:∀j,j<xs.length->f j=bT enc z xs j)(d:cs=enc y)(a:∀x,(enc x).length=sz) :
  ∀j,j<xs.length+1->(lm xs.length f (fun j=>fF cs sz j) j).length=sz/\eJ (lm xs.length f (fun j=>fF cs sz j) j)=true:=by
 intro j c;subst d;rw[mF (z:=z) rfl b (a y) c];exact⟨a _,hp _⟩
theorem s0(l:List UInt8):iz (bT l8 0 l) 0 l.length=l:=by apply List.ext_getElem (by simp[iz]);intro j b a;simp[iz,bT,l8,List.getD,a]
theorem Ps{μ:Nat->Nat}{α:Type}{enc:α->List SV}{z:α}(xs a:List α)(sz:Nat){f g:Nat->List SV}(hp:∀x,eJ (enc x)=true)(b:∀j,j<xs.length->f j=bT enc z xs j)(c:∀j,j<a.length->g j=bT enc z a j) :
  nz μ (.row false sz (xs++a).length (bT enc z (xs++a))) (.row false sz (xs.length+a.length) (lm xs.length f g)):=by
 refine jC (by simp) fun j d=>?_;rw[GW (z:=z) rfl rfl b c (by simpa using d)];exact e8 (hp _)
end Go.Vg
end
