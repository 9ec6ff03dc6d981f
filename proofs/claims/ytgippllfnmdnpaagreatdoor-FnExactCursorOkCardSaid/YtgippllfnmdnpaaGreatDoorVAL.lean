/- Own text: part VAL. -/
import Derived.Test.YtgippllfnmdnpaaGreatDoorVAK
import Derived.Test.YtgippllfnmdnpaaGreatDoorVAA
set_option linter.all false
section
namespace Go.Pl
def sO(s:Bs)(i:Nat)(L:List Pc)(cur:Bs):Bs×Nat×Int:=
 if h:i<s.length then
  if bW s i=10 then(if ib s (i+1)=0 then sO s (wh s (i+1)) (L++[⟨jl 0 cur,false⟩]) []else([],i+1,4))
  else if bW s i=39/\bW s (i+1)=39 then sO s (i+2) L (cur++[39])
  else if bW s i=39 then(mh (L++[⟨cur,false⟩]),i+1,0)
  else sO s (i+1) L (cur++[s.getD i 0])
 else([],s.length,3)
termination_by s.length-i
decreasing_by
 ·have:=gY s (i+1);omega
 ·omega
 omega
theorem Ll{s:Bs}{i:Nat}{L:List Pc}{cur:Bs}(h:¬i<s.length):sO s i L cur=([],s.length,3):=by rw[sO,cV h]
theorem Pm{s:Bs}{i:Nat}{L:List Pc}{cur:Bs}(h:i<s.length)(a:bW s i=10)(hm:ib s (i+1)=0):sO s i L cur=sO s (wh s (i+1)) (L++[⟨jl 0 cur,false⟩]) []:=by rw[sO,bV h,aB a,aB hm]
theorem Pk{s:Bs}{i:Nat}{L:List Pc}{cur:Bs}(h:i<s.length)(a:bW s i=10)(hm:¬ib s (i+1)=0):sO s i L cur=([],i+1,4):=by rw[sO,bV h,aB a,aA hm]
theorem Pn{s:Bs}{i:Nat}{L:List Pc}{cur:Bs}(h:i<s.length)(b:bW s i=39)(a:bW s (i+1)=39):sO s i L cur=sO s (i+2) L (cur++[39]):=by rw[sO,bV h,aA (by omega),aB ⟨b,a⟩]
theorem SP{s:Bs}{i:Nat}{L:List Pc}{cur:Bs}(h:i<s.length)(b:bW s i=39)(a:¬bW s (i+1)=39):sO s i L cur=(mh (L++[⟨cur,false⟩]),i+1,0):=by rw[sO,bV h,aA (by omega),aA (fun h=>a h.2),aB b]
theorem SN{s:Bs}{i:Nat}{L:List Pc}{cur:Bs}(h:i<s.length)(b:¬bW s i=10)(a:¬bW s i=39):sO s i L cur=sO s (i+1) L (cur++[s.getD i 0]):=by rw[sO,bV h,aA b,aA (fun h=>a h.1),aA a]
def ny(s:Bs)(p:Nat):Bs×Nat×Int:=if bW s p=39 then sO s (p+1) [] []else([],p,10)
def oT(s:Bs)(i:Nat)(L:List Pc)(cur:Bs)(k:Nat):Bs×Nat×Int:=
 if h:i<s.length then
  if bW s i=10 then(if ib s (i+1)=0 then oT s (wh s (i+1)) (L++[⟨jl k cur,false⟩]) [] 0 else([],i+1,4))
  else if bW s i=92/\bW s (i+1)=10 then(if ib s (i+2)=0 then oT s (wh s (i+2)) (L++[⟨cur,true⟩]) [] 0 else([],i+2,4))
  else if bW s i=92 then(if a:(nY s i).2<=i then([],i,5)else oT s (nY s i).2 L (cur++(nY s i).1) (cur++(nY s i).1).length)
  else if bW s i=34 then(mh (L++[⟨cur,false⟩]),i+1,0)
  else oT s (i+1) L (cur++[s.getD i 0]) k
 else([],s.length,3)
termination_by s.length-i
decreasing_by
 ·have:=gY s (i+1);omega
 ·have:=gY s (i+2);omega
 ·omega
 omega
theorem JC{s:Bs}{i:Nat}{L:List Pc}{cur:Bs}{k:Nat}(h:¬i<s.length):oT s i L cur k=([],s.length,3):=by rw[oT,cV h]
theorem Ng{s:Bs}{i:Nat}{L:List Pc}{cur:Bs}{k:Nat}(h:i<s.length)(a:bW s i=10)(hm:ib s (i+1)=0):oT s i L cur k=oT s (wh s (i+1)) (L++[⟨jl k cur,false⟩]) [] 0:=by rw[oT,bV h,aB a,aB hm]
theorem Nf{s:Bs}{i:Nat}{L:List Pc}{cur:Bs}{k:Nat}(h:i<s.length)(a:bW s i=10)(hm:¬ib s (i+1)=0):oT s i L cur k=([],i+1,4):=by rw[oT,bV h,aB a,aA hm]
theorem Nb{s:Bs}{i:Nat}{L:List Pc}{cur:Bs}{k:Nat}(h:i<s.length)(b:bW s i=92)(a:bW s (i+1)=10)(hm:ib s (i+2)=0):oT s i L cur k=oT s (wh s (i+2)) (L++[⟨cur,true⟩]) [] 0:=by rw[oT,bV h,aA (by omega),aB ⟨b,a⟩,aB hm]
theorem Nc{s:Bs}{i:Nat}{L:List Pc}{cur:Bs}{k:Nat}(h:i<s.length)(b:bW s i=92)(a:bW s (i+1)=10)(hm:¬ib s (i+2)=0):oT s i L cur k=([],i+2,4):=by rw[oT,bV h,aA (by omega),aB ⟨b,a⟩,aA hm]
theorem M9{s:Bs}{i:Nat}{L:List Pc}{cur:Bs}{k:Nat}(h:i<s.length)(b:bW s i=92)(a:¬bW s (i+1)=10)(he:(nY s i).2=0):oT s i L cur k=([],i,5):=by rw[oT,bV h,aA (by omega),aA (fun h=>a h.2),aB b,bV (by omega)]
theorem Na{s:Bs}{i:Nat}{L:List Pc}{cur:Bs}{k:Nat}(h:i<s.length)(b:bW s i=92)(a:¬bW s (i+1)=10)(he:¬(nY s i).2=0):oT s i L cur k=oT s (nY s i).2 L (cur++(nY s i).1) (cur++(nY s i).1).length:=by rw[oT,bV h,aA (by omega),aA (fun h=>a h.2),aB b,cV (by have:=DR s i;omega)]
theorem R1{s:Bs}{i:Nat}{L:List Pc}{cur:Bs}{k:Nat}(h:i<s.length)(a:bW s i=34):oT s i L cur k=(mh (L++[⟨cur,false⟩]),i+1,0):=by rw[oT,bV h,aA (by omega),aA (fun h=>by omega),aA (by omega),aB a]
theorem R0{s:Bs}{i:Nat}{L:List Pc}{cur:Bs}{k:Nat}(h:i<s.length)(c:¬bW s i=10)(a:¬bW s i=92)(b:¬bW s i=34):oT s i L cur k=oT s (i+1) L (cur++[s.getD i 0]) k:=by rw[oT,bV h,aA c,aA (fun h=>a h.1),aA a,aA b]
def nC(s:Bs)(p:Nat):Bs×Nat×Int:=if bW s p=34 then oT s (p+1) [] [] 0 else([],p,10)
theorem zb{k:Nat}{b:Bs}{w:UInt8}(a:k<=b.length)(hw:w=32\/w=9):jl k (b++[w])=jl k b:=by
 rw[M7]
 ·congr 1;simp
 have e:(b++[w]).getD ((b++[w]).length-1) 0=w:=by simp[List.getD]
 rw[e];exact⟨by simp;omega,hw⟩
theorem za{k:Nat}{b:Bs}{w:UInt8}(hw:¬(w=32\/w=9)):jl k (b++[w])=b++[w]:=by
 rw[DN];have e:(b++[w]).getD ((b++[w]).length-1) 0=w:=by simp[List.getD]
 rw[e];exact fun h=>hw h.2
theorem FD(b:Bs):jl b.length b=b:=by rw[DN];rintro⟨h,_⟩;omega
theorem ra(k:Nat):jl k []=[]:=by rw[DN];rintro⟨h,_⟩;simp at h
theorem Ce(k:Nat):∀(n:Nat) (b:Bs),b.take (Bv k n b).length=Bv k n b
 |0,b=>by simp[Bv]
 |n+1,b=>by
  unfold Bv;split
  ·have h:=Ce k n (b.take (b.length-1));rw[List.take_take]at h;have a:=y9 k n (b.take (b.length-1));rw[aZ]at a;rw[Nat.min_eq_left (by omega)]at h;exact h
  simp
theorem Cg(k:Nat)(b:Bs):b.take (jl k b).length=jl k b:=Ce k _ b
theorem jc(e:Pc):mm [e]=e.text.length+1:=by simp[mm]
theorem Dk(s:Bs)(i:Nat)(L:List Pc)(cur:Bs)(h:i<=s.length):i<=(sO s i L cur).2.1/\(sO s i L cur).2.1<=s.length/\((sO s i L cur).2.2=0->i<(sO s i L cur).2.1):=by
 fun_induction sO s i L cur with
 |case1 i L cur a e hm b=>have c:=gY s (i+1);have d:=gO s (i+1) a;have:=b d;omega
 |case2 i L cur a e hm=>simp only;omega
 |case3 i L cur a e c b=>
  have d:i+1<s.length:=by
   rcases aU (i+1) s.length with f|f
   ·exact f
   rw[eZ f]at c;omega
  have:=b (by omega);omega
 |case4 i L cur a e c d=>simp only;omega
 |case5 i L cur a e c d b=>have:=b (by omega);omega
 |case6 i L cur a=>simp only;omega
theorem Ch(s:Bs)(i:Nat)(L:List Pc)(cur:Bs)(k:Nat)(h:i<=s.length):i<=(oT s i L cur k).2.1/\(oT s i L cur k).2.1<=s.length/\((oT s i L cur k).2.2=0->i<(oT s i L cur k).2.1):=by
 fun_induction oT s i L cur k with
 |case1 i L cur k a d hm e=>have b:=gY s (i+1);have f:=gO s (i+1) a;have:=e f;omega
 |case2 i L cur k a d hm=>simp only;omega
 |case3 i L cur k a d b hm e=>
  have f:i+1<s.length:=by
   rcases aU (i+1) s.length with c|c
   ·exact c
   rw[eZ c]at b;omega
  have c:=gY s (i+2);have j:=gO s (i+2) f;have:=e j;omega
 |case4 i L cur k a d b hm=>
  have f:i+1<s.length:=by
   rcases aU (i+1) s.length with c|c
   ·exact c
   rw[eZ c]at b;omega
  simp only;omega
 |case5 i L cur k a d b g he=>simp only;omega
 |case6 i L cur k a d b g he e=>have f:=zm s i;have:=e f;omega
 |case7 i L cur k a d b g l=>simp only;omega
 |case8 i L cur k a d b g l e=>have:=e (by omega);omega
 |case9 i L cur k a=>simp only;omega
theorem xa{s:Bs}{p:Nat}(h:p<=s.length):p<=(ny s p).2.1/\(ny s p).2.1<=s.length/\((ny s p).2.2=0->p+1<(ny s p).2.1):=by
 unfold ny;split
 ·rename_i b;have c:p<s.length:=by
   rcases aU p s.length with a|a
   ·exact a
   rw[eZ a]at b;omega
  have:=Dk s (p+1) [] [] c;omega
 simp only;omega
theorem vN{s:Bs}{p:Nat}(h:p<=s.length):p<=(nC s p).2.1/\(nC s p).2.1<=s.length/\((nC s p).2.2=0->p+1<(nC s p).2.1):=by
 unfold nC;split
 ·rename_i b;have c:p<s.length:=by
   rcases aU p s.length with a|a
   ·exact a
   rw[eZ a]at b;omega
  have:=Ch s (p+1) [] [] 0 c;omega
 simp only;omega
theorem L9{s:Bs}{p:Nat}(h:p<=s.length):0<=(jm s p).2.1/\(jm s p).2.1<=s.length/\((jm s p).2.2=true->(p:Int)+2<=(jm s p).2.1):=by
 unfold jm;split
 ·rename_i c;have d:p<s.length:=by
   rcases aU p s.length with b|b
   ·exact b
   rw[eZ b]at c;omega
  have:=r8 s (p+1) d;simp only;omega
 simp
def Iz(s:Bs)(p e:Nat):Bool:=decide (e<=en s p)
theorem Rc{s:Bs}{p e:Nat}(m:p<=e)(o:e<=s.length):decide ((10:UInt8)∈sub s p e)=!Iz s p e:=by
 unfold Iz sub;rw[bO];simp only[aE,aR,aO,Nat.not_le];have key:∀q,q<s.length->(kH s q=true↔s.getD q 0=10):=by
  intro q l;have b:¬((s.getD q 0).toNat:Int)<0:=by omega
  simp only[kH,cW l,aV,dx,aE,b,or_false];have:=jW (c:=s.getD q 0) (n:=10) (by decide);simp only[dM]at this;rw[this];rfl
 constructor
 ·intro hm;obtain⟨j,i,d⟩:=eM.1 hm;have k:p+j<e:=by simp only[bK,aZ]at i;omega
  have f:s.getD (p+j) 0=10:=by simp only[List.getElem_drop,fP]at d;simp[List.getD,show p+j<s.length by omega,d]
  rcases aU (p+j) (en s p)with b|b
  ·have:=Nq (Nat.le_add_right p j) b;rw[(key _ (by omega)).2 f]at this;cases this
  omega
 intro t;have h:=DQ s p;have d:=(key _ (by omega)).1 h;have r:=lW s p;refine eM.2 ⟨en s p-p,by simp only[bK,aZ];omega, ?_⟩;simp only[List.getElem_drop,fP,show p+(en s p-p)=en s p by omega];simpa[List.getD,show en s p<s.length by omega]using d
def kA(s:Bs)(p:Nat):Int×Bool:=
 if bW s p=42 then((jm s p).2.1,(jm s p).2.2)
 else if bW s p=39 then((ny s p).2.1,decide ((ny s p).2.2=0)&&Iz s p (ny s p).2.1)
 else if bW s p=34 then((nC s p).2.1,decide ((nC s p).2.2=0)&&Iz s p (nC s p).2.1)
 else if yE s p false=true then(kj s p false,decide (p<kj s p false))
 else(0,false)
theorem vY{s:Bs}{p:Nat}(h:p<=s.length):0<=(kA s p).1/\(kA s p).1<=s.length/\((kA s p).2=true->(p:Int)<(kA s p).1):=by
 unfold kA;have b:=L9 h;have c:=xa h;have d:=vN h;have e:=oG s p false h;split
 ·exact⟨b.1,b.2.1,fun a=>by have:=b.2.2 a;omega⟩
 split
 ·exact⟨by simp only;omega,by simp only;omega,fun a=>by simp only[aD,aE]at a;have:=c.2.2 a.1;simp only;omega⟩
 split
 ·exact⟨by simp only;omega,by simp only;omega,fun a=>by simp only[aD,aE]at a;have:=d.2.2 a.1;simp only;omega⟩
 split
 ·exact⟨by simp only;omega,by simp only;omega,fun a=>by simp only[aE]at a;simp only;omega⟩
 simp
def jg(s:Bs)(p:Nat):Int×Int×Bool:=
 if(kA s p).2=true/\(kA s p).1-p<=1000/\bW s (wh s (kA s p).1.toNat)=58/\gN s (wh s (kA s p).1.toNat+1)=true then((kA s p).1,wh s (kA s p).1.toNat,true)else(0,0,false)
theorem NS{s:Bs}{p:Nat}(h:(kA s p).2=true/\(kA s p).1-p<=1000/\bW s (wh s (kA s p).1.toNat)=58/\gN s (wh s (kA s p).1.toNat+1)=true):jg s p=((kA s p).1,(wh s (kA s p).1.toNat:Int),true):=by unfold jg;rw[aB h]
theorem F2{s:Bs}{p:Nat}(h:¬((kA s p).2=true/\(kA s p).1-p<=1000/\bW s (wh s (kA s p).1.toNat)=58/\gN s (wh s (kA s p).1.toNat+1)=true)):jg s p=(0,0,false):=by unfold jg;rw[aA h]
theorem cE{s:Bs}{i:Nat}{b:Int}(h:bW s i=b)(e:0<=b):i<s.length:=by
 rcases aU i s.length with c|c
 ·exact c
 rw[eZ c]at h;omega
def bl(s:Bs)(i:Nat):Nat:=if h:bW s i=32 then bl s (i+1)else i
termination_by s.length-i
decreasing_by have:=cE h (by decide);omega
theorem VM{s:Bs}{i:Nat}(h:bW s i=32):bl s i=bl s (i+1):=by rw[bl,bV h]
theorem VL{s:Bs}{i:Nat}(h:¬bW s i=32):bl s i=i:=by rw[bl,cV h]
def jG(s:Bs)(p:Nat):Nat:=bl s (la s p)-la s p
def NA(s:Bs)(p:Nat):Bool:=decide (bW s p=35)&&(decide (la s p=p)||nD s (p-1))
theorem FI{s:Bs}{p:Nat}(h:kH s p=false):p<en s p:=by rw[T5 h];have:=lW s (p+1);omega
theorem NN{s:Bs}{p:Nat}(h:bW s p=35):kH s p=false:=by unfold kH;rw[h];decide
def dR(s:Bs)(p:Nat):Nat:=
 if h:p<s.length then(if nD s p=true\/bW s p=10 then dR s (p+1)else if a:NA s p=true then dR s (en s p)else p)else p
termination_by s.length-p
decreasing_by
 ·omega
 have:=FI (NN (by simp[NA]at a;exact a.1));omega
theorem JW{s:Bs}{p:Nat}(h:nD s p=true\/bW s p=10):dR s p=dR s (p+1):=by
 have a:p<s.length:=by
  rcases h with h|h
  ·exact zD h
  exact cE h (by decide)
 rw[dR,bV a,aB h]
theorem JV{s:Bs}{p:Nat}(h:NA s p=true):dR s p=dR s (en s p):=by
 have a:bW s p=35:=by simp[NA]at h;exact h.1
 have b:=cE a (by decide);have hw:¬(nD s p=true\/bW s p=10):=by unfold nD;rw[a];decide
 rw[dR,bV b,aA hw,bV h]
theorem NB{s:Bs}{p:Nat}(h:¬(nD s p=true\/bW s p=10))(b:NA s p=false):dR s p=p:=by
 by_cases a:p<s.length
 ·rw[dR,bV a,aA h,cV (by rw[b];simp)]
 rw[dR,cV a]
theorem DV{s:Bs}{p:Nat}(h:¬p<s.length):dR s p=p:=by rw[dR,cV h]
theorem fq(s:Bs)(p:Nat):p<=dR s p:=by
 fun_induction dR s p with
 |case1 p h a c=>omega
 |case2 p h a b c=>have:=lW s p;omega
 |case3 p h a b=>omega
 |case4 p h=>omega
theorem ez(s:Bs)(p:Nat)(h:p<=s.length):dR s p<=s.length:=by
 fun_induction dR s p with
 |case1 p h b a=>exact a (by omega)
 |case2 p d b c a=>exact a (jF s p h)
 |case3 p h b c=>omega
 |case4 p h=>omega
theorem DW(s:Bs)(p:Nat):dR s (wh s p)=dR s p:=by
 fun_induction wh s p with
 |case1 i h b=>rw[b,<-JW (.inl h)]
 |case2 i h=>rfl
def js(s:Bs)(p:Nat):Bool:=kH s (wh s (la s p))
def cl(s:Bs)(i:Nat):Nat:=if h:gN s i=false/\¬bW s i=62 then cl s (i+1)else i
termination_by s.length-i
decreasing_by have:=gD h.1;omega
theorem VT{s:Bs}{i:Nat}(h:gN s i=false/\¬bW s i=62):cl s i=cl s (i+1):=by rw[cl,bV h]
theorem QB{s:Bs}{i:Nat}(h:¬(gN s i=false/\¬bW s i=62)):cl s i=i:=by rw[cl,cV h]
theorem RY(s:Bs)(i:Nat):i<=cl s i:=by
 fun_induction cl s i with
 |case1 i h c=>omega
 |case2 i h=>omega
def yr(s:Bs)(p:Nat):Nat:=if bW s (p+1)=60/\bW s (cl s (p+2))=62/\p+2<cl s (p+2)then cl s (p+2)+1 else mw s p
def my(s:Bs)(p:Nat):Bs×Int×Bool:=if bW s p=33/\yr s p<=p+60 then(sub s p (yr s p),yr s p,true)else([],0,false)
theorem xW{s:Bs}{p:Nat}(h:bW s p=33/\yr s p<=p+60):my s p=(sub s p (yr s p),(yr s p:Int),true):=by unfold my;rw[aB h]
theorem s6{s:Bs}{p:Nat}(h:¬(bW s p=33/\yr s p<=p+60)):my s p=([],0,false):=by unfold my;rw[aA h]
theorem I4{s:Bs}{p:Nat}(h:bW s p=33):p+1<=mw s p:=by have a:=cE h (by decide);rw[Pv ⟨by unfold gN nD kH;rw[h];decide,by rw[h];decide⟩];exact I5 s (p+1)
theorem xc{s:Bs}{p:Nat}(h:bW s p=33):p+1<=yr s p/\yr s p<=s.length:=by
 have b:=cE h (by decide);unfold yr;split
 ·rename_i a;have:=cE a.2.1 (by decide);have:=RY s (p+2);omega
 exact⟨I4 h,r8 s p (by omega)⟩
structure Hd where
 name:Bs
 pre:Bs
deriving DecidableEq
def lO:Hd:=⟨[],[]⟩
def pK(b:UInt8):Bool:=(decide (97<=b.toNat)&&decide (b.toNat<=122))||(decide (65<=b.toNat)&&decide (b.toNat<=90))||(decide (48<=b.toNat)&&decide (b.toNat<=57))||decide (b.toNat=45)
def MJ(s:Bs):Bool:=decide (s.length<=60/\s≠[]/\s.getD 0 0=33/\s.getD (s.length-1) 0=33)&&(sub s 1 (s.length-1)).all pK
def E1(name:Bs)(rest:Bs):List Hd->Bs×Bool
 |[]=>if name=[33,33]then([116,97,103,58,121,97,109,108,46,111,114,103,44,50,48,48,50,58]++rest,true)else if name=[33]then([33]++rest,true)else([],false)
 |h::r=>if h.name=name then(if h.pre=[]then([],false)else(h.pre++rest,true))else E1 name rest r
def B2(raw:Bs)(l:List Hd):Bs×Bool:=
 if raw=[]\/raw.getD 0 0≠33 then([],false)
 else if 3<raw.length/\raw.getD 1 0=60/\raw.getD (raw.length-1) 0=62 then(sub raw 2 (raw.length-1),true)
 else if raw=[33]then([33],true)
 else if raw.drop (CM raw 33+1).toNat=[]\/MJ (raw.take (CM raw 33+1).toNat)=false then([],false)
 else E1 (raw.take (CM raw 33+1).toNat) (raw.drop (CM raw 33+1).toNat) l
def qI(s:Bs)(a:Nat)(many:Nat):Nat×Nat×Bool:=
 if h:js s a=true then(if b:a<=en s a/\en s a<s.length then qI s (en s a+1) (many+1)else(a,many,false))else(a,many,true)
termination_by s.length-a
decreasing_by omega
theorem Sr{s:Bs}{a many:Nat}(h:js s a=true)(b:en s a<s.length):qI s a many=qI s (en s a+1) (many+1):=by rw[qI,bV h,bV ⟨lW s a,b⟩]
theorem Sq{s:Bs}{a many:Nat}(h:js s a=true)(b:¬en s a<s.length):qI s a many=(a,many,false):=by rw[qI,bV h,cV (fun h=>b h.2)]
theorem NY{s:Bs}{a many:Nat}(h:js s a=false):qI s a many=(a,many,true):=by rw[qI,cV (by rw[h];simp)]
theorem L5(s:Bs)(a many:Nat)(h:a<=s.length):a<=(qI s a many).1/\(qI s a many).1<=s.length/\many<=(qI s a many).2.1/\(qI s a many).2.1+a<=many+(qI s a many).1:=by
 fun_induction qI s a many with
 |case1 a many c d e=>have:=e (by omega);omega
 |case2 a many c d=>simp only;omega
 |case3 a many c=>simp only;omega
def HK(s:Bs)(a:Nat)(n:Int)(b:Bool):Bool:=
 decide (ib s a=0)&&(b||decide (n<(jG s a:Int)))&&!decide (bW s (wh s a)=35)&&!decide (kj s (wh s a) b=wh s a)
def ml(s:Bs)(e:Nat)(n:Int)(a:Bool):Nat×Nat×Bool:=
 if bW s (wh s e)=10/\(qI s (wh s e+1) 0).2.2=true/\HK s (qI s (wh s e+1) 0).1 n a=true then(wh s (qI s (wh s e+1) 0).1,(qI s (wh s e+1) 0).2.1,true)else(0,0,false)
theorem Ow{s:Bs}{e:Nat}{n:Int}{a:Bool}(h:bW s (wh s e)=10/\(qI s (wh s e+1) 0).2.2=true/\HK s (qI s (wh s e+1) 0).1 n a=true):ml s e n a=(wh s (qI s (wh s e+1) 0).1,(qI s (wh s e+1) 0).2.1,true):=by unfold ml;rw[aB h]
theorem zX{s:Bs}{e:Nat}{n:Int}{a:Bool}(h:¬(bW s (wh s e)=10/\(qI s (wh s e+1) 0).2.2=true/\HK s (qI s (wh s e+1) 0).1 n a=true)):ml s e n a=(0,0,false):=by unfold ml;rw[aA h]
theorem oZ{s:Bs}{e:Nat}{n:Int}{a:Bool}(h:(ml s e n a).2.2=true):e+(ml s e n a).2.1+1<=(ml s e n a).1/\(ml s e n a).1<=s.length/\(ml s e n a).1<kj s (ml s e n a).1 a:=by
 by_cases b:bW s (wh s e)=10/\(qI s (wh s e+1) 0).2.2=true/\HK s (qI s (wh s e+1) 0).1 n a=true
 ·rw[Ow b];have d:=cE b.1 (by decide);have c:=L5 s (wh s e+1) 0 d;have f:=gY s e;have g:=gY s (qI s (wh s e+1) 0).1;have i:=gO s (qI s (wh s e+1) 0).1 c.2.1;have j:=Ey s (wh s (qI s (wh s e+1) 0).1) a;have k:¬kj s (wh s (qI s (wh s e+1) 0).1) a=wh s (qI s (wh s e+1) 0).1:=by have:=b.2.2;simp only[HK,aD,aR,aO]at this;exact this.2
  simp only;omega
 rw[zX b]at h;cases h
def B1(s:Bs)(e:Nat)(n:Int)(a:Bool)(L:List Pc):Bs×Nat:=
 if h:(ml s e n a).2.2=true then B1 s (kj s (ml s e n a).1 a) n a (L++List.replicate (ml s e n a).2.1 iH++[⟨sub s (ml s e n a).1 (kj s (ml s e n a).1 a),false⟩])else(mh L,e)
termination_by s.length-e
decreasing_by
 have b:=oZ h;have c:=oG s (ml s e n a).1 a b.2.1;omega
theorem SF{s:Bs}{e:Nat}{n:Int}{a:Bool}{L:List Pc}(h:(ml s e n a).2.2=true):B1 s e n a L=B1 s (kj s (ml s e n a).1 a) n a (L++List.replicate (ml s e n a).2.1 iH++[⟨sub s (ml s e n a).1 (kj s (ml s e n a).1 a),false⟩]):=by rw[B1,bV h]
theorem KZ{s:Bs}{e:Nat}{n:Int}{a:Bool}{L:List Pc}(h:(ml s e n a).2.2=false):B1 s e n a L=(mh L,e):=by rw[B1,cV (by rw[h];simp)]
def AK(s:Bs)(p:Nat)(n:Int)(a:Bool):Bs×Nat×Bool:=
 if yE s p a=true then((B1 s (kj s p a) n a [⟨sub s p (kj s p a),false⟩]).1,(B1 s (kj s p a) n a [⟨sub s p (kj s p a),false⟩]).2,true)else([],0,false)
end Go.Pl
namespace Go.Pl
def FX(name:Bs):List Hd->Bs
 |[]=>if name=[33,33]then[116,97,103,58,121,97,109,108,46,111,114,103,44,50,48,48,50,58]else if name=[33]then[33]else[]
 |h::r=>if h.name=name then h.pre else FX name r
theorem Sd(name rest:Bs):∀l:List Hd,E1 name rest l=if FX name l=[]then([],false)else(FX name l++rest,true)
 |[]=>by
  unfold E1 FX;by_cases a:name=[33,33]
  ·rw[aB a,aB a,aA (by simp)]
  ·rw[aA a,aA a];by_cases b:name=[33]
   ·rw[aB b,aB b,aA (by simp)]
   ·rw[aA b,aA b,aB rfl]
 |h::r=>by
  unfold E1 FX;by_cases a:h.name=name
  ·rw[aB a,aB a]
  rw[aA a,aA a];exact Sd name rest r
end Go.Pl
namespace Go.Pl
theorem yM{s:Bs}{a e:Nat}(p:UInt8->Bool)(he:e<=s.length):(sub s a e).all p=true↔∀j,a<=j->j<e->p (s.getD j 0)=true:=by
 unfold sub;rw[cx];constructor
 ·intro h j f g;refine h _ (eM.2 ⟨j-a,by simp only[bK,aZ];omega, ?_⟩);simp only[List.getElem_drop,fP,show a+(j-a)=j by omega];simp[List.getD,show j<s.length by omega]
 intro h x d;obtain⟨j,c,rfl⟩:=eM.1 d;have b:a+j<e:=by simp only[bK,aZ]at c;omega
 have:=h (a+j) (by omega) b;simp only[List.getElem_drop,fP];simpa[List.getD,show a+j<s.length by omega]using this
theorem NE{name rest:Bs}{l:List Hd}{i:Nat}(h:i<l.length):E1 name rest (l.drop i)=if(l.getD i lO).name=name then(if(l.getD i lO).pre=[]then([],false)else((l.getD i lO).pre++rest,true))else E1 name rest (l.drop (i+1)):=by
 have e:l.getD i lO=l[i]:=by simp[List.getD,h]
 rw[cz h,e,E1]
theorem NF{name:Bs}{l:List Hd}{i:Nat}(h:i<l.length):FX name (l.drop i)=if(l.getD i lO).name=name then(l.getD i lO).pre else FX name (l.drop (i+1)):=by
 have e:l.getD i lO=l[i]:=by simp[List.getD,h]
 rw[cz h,e,FX]
theorem NW(s:Bs)(c:Int) : -1<=CM s c/\CM s c<s.length:=⟨Kg s c _,Kh s c _⟩
theorem JZ{name:Bs}:∀{l:List Hd} {N:Nat},18<=N->(∀h∈l,h.pre.length<=N)->(FX name l).length<=N
 |[],N,h,_=>by
  unfold FX;split;simpa using h;split<;>simp;omega
 |h::r,N,b,a=>by unfold FX;split;exact a h (List.mem_cons_self ..);exact JZ b fun x c=>a x (dI _ c)
theorem NV{s:Bs}{c:Int}{i:Nat}(h:((s.getD i 0).toNat:Int)=c):pL s c (i+1)=i:=by rw[pL,aB h]
theorem L4{s:Bs}{c:Int}{i:Nat}(h:¬((s.getD i 0).toNat:Int)=c):pL s c (i+1)=pL s c i:=by rw[pL,aA h]
end Go.Pl
namespace Go.Pl
theorem Tr{raw:Bs}{l:List Hd}(h:raw=[]\/raw.getD 0 0≠33):B2 raw l=([],false):=by unfold B2;rw[aB h]
theorem Ts{raw:Bs}{l:List Hd}(a:¬(raw=[]\/raw.getD 0 0≠33))(h:3<raw.length/\raw.getD 1 0=60/\raw.getD (raw.length-1) 0=62):B2 raw l=(sub raw 2 (raw.length-1),true):=by unfold B2;rw[aA a,aB h]
theorem Tt{l:List Hd}:B2 [33] l=([33],true):=by unfold B2;simp
theorem P9{raw:Bs}{l:List Hd}(a:¬(raw=[]\/raw.getD 0 0≠33))(b:¬(3<raw.length/\raw.getD 1 0=60/\raw.getD (raw.length-1) 0=62))(hC:¬raw=[33]):B2 raw l=if raw.drop (CM raw 33+1).toNat=[]\/MJ (raw.take (CM raw 33+1).toNat)=false then([],false)else E1 (raw.take (CM raw 33+1).toNat) (raw.drop (CM raw 33+1).toNat) l:=by unfold B2;rw[aA a,aA b,aA hC]
end Go.Pl
namespace Go.Pl
theorem u0:∀n:Nat,mm (List.replicate n iH)=n
 |0=>rfl
 |n+1=>by
  have:=u0 n;rw[List.replicate_succ];unfold mm at this |-
  rw[cC,eX,this];show 0+1+n=n+1;omega
theorem NT{s:Bs}{i:Nat}(h:bW s i=10):la s (i+1)=i+1:=by unfold la;rw[aB h]
theorem R6{s:Bs}{a:Nat}(h:en s a<s.length):bW s (en s a)=10:=by
 have:=DQ s a;unfold kH at this;simp only[aV,dx,aE]at this;rcases this with b|b
 ·exact b
 have:=Jy.1 b;omega
theorem UJ{s:Bs}{e:Nat}{n:Int}{fl:Bool}{a k:Nat}(g:bW s (wh s e)=10)(c:qI s a k=qI s (wh s e+1) 0)(hex:¬(js s a=true/\en s a<s.length)) :
  ml s e n fl=if js s a=false/\HK s a n fl=true then(wh s a,k,true)else(0,0,false):=by
 by_cases b:js s a=true
 ·rw[Sq b (fun h=>hex ⟨b,h⟩)]at c;rw[zX (by rintro⟨_,d,_⟩;rw[<-c]at d;cases d),aA (by rintro⟨d,_⟩;rw[d]at b;cases b)]
 have b:js s a=false:=by simpa using b
 rw[NY b]at c;by_cases f:HK s a n fl=true
 ·rw[Ow ⟨g,by rw[<-c],by rw[<-c];exact f⟩,<-c,aB ⟨b,f⟩]
 rw[zX (by rintro⟨_,_,d⟩;rw[<-c]at d;exact f d),aA (fun h=>f h.2)]
end Go.Pl
end
section
namespace Go.Vg
variable[Go.Vg.df]
open Go.Pl
def kl(e:Hd):List SV:=[.s e.name,.s e.pre]
theorem DX{l m:List Hd}:l.map kl=m.map kl↔l=m:=map_inj fun a b h=>by cases a;cases b;simpa[kl]using h
theorem FR(a:List Hd)(i:Nat):(a.map kl).getD i [.s [],.s []]=[.s (a.getD i lO).name,.s (a.getD i lO).pre]:=getD_map kl a i lO
theorem La{a:List Hd}{i:Nat}:bT kl lO a i=[.s (a.getD i lO).name,.s (a.getD i lO).pre]:=id rfl
theorem Lf{μ:Nat->Nat}{r:Bool}{sz n:Nat}{a:List Hd}:SO.bP μ (.row r sz n (bT kl lO a))=.row r sz n (bT kl lO a):=EH fun _=>rfl
theorem Sb(e:Hd):(⟨e.name,e.pre⟩:Hd)=e:=id rfl
theorem qF:type_of% (ai (ai @FR @La) (ai @Lf @Sb)):=ai (ai @FR @La) (ai @Lf @Sb)
end Go.Vg
namespace Go.Vg
variable[Go.Vg.df]
theorem eU{μ:Nat->Nat}{α:Type}{enc:α->List SV}{z:α}(xs:List α)(y:α){b:List α}{sz n m:Nat}{f:Nat->List SV}{cs:List SV}(hp:∀x,eJ (enc x)=true)(a:b=xs++[y])(g:n=xs.length)(hm:m=n+1)(c:∀j,j<n->f j=bT enc z xs j)(h:cs=enc y)(e:(enc y).length=sz) :
  nz μ (.row false sz m (bT enc z b)) (.row false sz (n+1) (lm n f fun j=>fF cs sz j)):=by
 subst h;subst a;subst g;subst hm;refine bM fun j d=>?_;rw[mF (z:=z) rfl c e d];exact e8 (hp _)
end Go.Vg
end
section
namespace Go.Pl
abbrev iB:=List (Bool×Nat)
def tp(o:iB):Bool×Nat:=o.getD (o.length-1) (false,0)
def nZ(o:iB):iB:=o.set (o.length-1) ((tp o).1,(tp o).2+1)
def pop(o:iB):iB:=o.take (o.length-1)
def mV(d:Int)(o:iB):Bool×Int×iB:=if o=[]then(decide (d=1),2,[])else(true,d,nZ o)
def rk(o:iB):Bool:=!(decide (o=[])||((tp o).1&&decide ((tp o).2 % 2≠0)))
def lp(d:Int)(o:iB)(k:Int):Bool×Int×iB:=
 if k=2 then(decide (d=0),1,o)
 else if k=5\/k=6 then mV d o
 else if k=3\/k=4 then((mV d o).1,(mV d o).2.1,(mV d o).2.2++[(decide (k=4),0)])
 else if k=7 then if rk o then(true,d,pop o)else(false,d,o)
 else if k=8 then(decide (d=2)&&decide (o=[]),0,o)
 else(false,d,o)
def oY:List Ev->Int->iB->Bool
 |[],_,_=>false
 |e::r,d,o=>kz e&&(if e.kind=10 then r.isEmpty else if e.kind=9 then r.isEmpty&&decide (d=0)else(lp d o e.kind).1&&oY r (lp d o e.kind).2.1 (lp d o e.kind).2.2)
def eQ:List Ev->Bool
 |[]=>false
 |e::r=>kz e&&decide (e.kind=1)&&oY r 0 []
theorem getD_map'{α β:Type}(g:α->β)(l:List α)(j:Nat)(z:α):(l.map g).getD j (g z)=g (l.getD j z):=by simp only[aG,cu];cases l[j]?<;>rfl
theorem xx{o:iB}:(nZ o).length=o.length:=by simp[nZ]
theorem IS{o:iB}:(pop o).length=o.length-1:=by simp[pop]
theorem Cs{α:Type}(l:List α)(i j:Nat)(x z:α)(a:i<l.length):(l.set i x).getD j z=if j=i then x else l.getD j z:=by
 simp only[aG,gE];by_cases h:j=i
 ·subst h;simp[a]
 rw[aA (Ne.symm h),aA h]
end Go.Pl
namespace Go.Pl
end Go.Pl
namespace Go.Pl
theorem zQ{d:Int}{o:iB}:(mV d o).2.2.length=o.length:=by
 unfold mV;split
 ·rename_i h;simp[h]
 exact xx
end Go.Pl
namespace Go.Pl
theorem zS{l:List Ev}(h:l.length<2\/(l.getD 0 ec).kind≠1\/kz (l.getD 0 ec)=false):eQ l=false:=by
 match l with
 |[]=>rfl
 |[e]=>simp[eQ,oY]
 |e::f::r=>
  simp only[fW,aK]at h;unfold eQ;rcases h with h|h|h
  ·omega
  ·simp[h]
  simp[h]
end Go.Pl
namespace Go.Pl
theorem LP{α:Type}(l:List α)(j:Nat)(z:α)(h:j<l.length):l.drop j=l.getD j z::l.drop (j+1):=by rw[cz h];simp[List.getD,h]
end Go.Pl
namespace Go.Pl
end Go.Pl
namespace Go.Pl
end Go.Pl
namespace Go.Pl
end Go.Pl
end
section
namespace Go.Pl
def fS(k:Int):Bool:=decide (k=3)||decide (k=4)
def ie(k:Int):Bool:=fS k||decide (k=5)||decide (k=6)
def ic(l:List Ev):Nat->List Nat
 |0=>[]
 |k+1=>if fS (l.getD k ec).kind then ic l k++[k]else if(l.getD k ec).kind=7 then(ic l k).take ((ic l k).length-1)else ic l k
def nI(s:List Nat):Int:=if s.length=0 then -1 else s.getD (s.length-1) 0
def kO(l:List Ev):Nat->Nat
 |0=>0
 |k+1=>if(l.getD k ec).kind=2 then k else kO l k
def iC(l:List Ev):Nat->Nat->Int
 |0,_=>0
 |k+1,j=>if j=k then(if ie (l.getD k ec).kind&&!fS (l.getD k ec).kind then(k:Int)else -1)else if(l.getD k ec).kind=7/\nI (ic l k)=j then(k:Int)else iC l k j
def Gb(n:Nat)(f:Nat->Int):List Int:=(List.range n).map f
def mn(l:List Ev):List Int:=Gb l.length (iC l l.length)
def HR(l:List Ev):List Int:=Gb l.length fun j=>nI (ic l j)
def pD(l:List Ev):List Int:=Gb l.length fun j=>(kO l (j+1):Nat)
theorem lC{n:Nat}{f:Nat->Int}:(Gb n f).length=n:=by simp[Gb]
theorem cI{n:Nat}{f:Nat->Int}{j:Nat}(h:j<n):(Gb n f).getD j 0=f j:=by simp[Gb,List.getD,h]
end Go.Pl
namespace Go.Pl
theorem Ip{o:iB}(h:rk o=true):0<o.length:=by unfold rk at h;simp at h;exact fX.2 h.1
theorem Ob{d:Int}{o:iB}{s:List Nat}{k:Int}{i:Nat}(h:(lp d o k).1=true)(a:o.length=s.length) :
  (lp d o k).2.2.length=(if fS k then s++[i]else if k=7 then s.take (s.length-1)else s).length:=by
 unfold lp at h |-
 unfold fS;by_cases b:k=2
 ·simp[b,a]
 by_cases c:k=5\/k=6
 ·rw[aA b,aB c,aA (by simp;omega),aA (by omega),zQ,a]
 by_cases e:k=3\/k=4
 ·rw[aA b,aA c,aB e,aB (by simp;omega)];simp[zQ,a]
 have j:(decide (k=3)||decide (k=4))=false:=by simp;omega
 simp only[b,c,e,j,bG,bU]at h |-
 by_cases f:k=7
 ·simp only[f,dy]at h |-
  cases he:rk o with
  |true=>simp[IS,a]
  |false=>rw[he]at h;simp at h
 simp only[f,bG]at h |-
 by_cases g:k=8
 ·simp only[g,dy];exact a
 simp only[g,bG]at h;cases h
theorem Lj{l:List Ev}:∀(n k:Nat) (d:Int) (o:iB),l.length-k<=n->oY (l.drop k) d o=true->o.length=(ic l k).length->∀m,k<=m->m<l.length->(l.getD m ec).kind=7->0<(ic l m).length
 |0,k,d,o,i,a,g,m,h,f,c=>by omega
 |n+1,k,d,o,i,a,g,m,h,f,c=>by
  rw[LP l k ec (by omega)]at a;simp only[oY,aD]at a;obtain⟨_,a⟩:=a;by_cases b:(l.getD k ec).kind=10
  ·rw[aB b]at a;have:l.length<=k+1:=by simpa using a
   obtain rfl:m=k:=by omega
   rw[b]at c;cases c
  rw[aA b]at a;by_cases e:(l.getD k ec).kind=9
  ·rw[aB e]at a;simp only[aD]at a;have:l.length<=k+1:=by simpa using a.1
   obtain rfl:m=k:=by omega
   rw[e]at c;cases c
  rw[aA e]at a;simp only[aD]at a;by_cases hm:m=k
  ·subst hm;have:=a.1;rw[c]at this;simp only[lp,Int.reduceEq,bG,or_self,dy]at this;split at this
   ·rename_i he;have:=Ip he;omega
   cases this
  exact Lj n (k+1) _ _ (by omega) a.2 (Ob a.1 g) m (by omega) f c
theorem Ir{l:List Ev}(h:eQ l=true){m:Nat}(d:m<l.length)(b:(l.getD m ec).kind=7):0<(ic l m).length:=by
 match l,h with
 |e::r,h=>
  simp only[eQ,aD,aE]at h;have c:1<=m:=by
   rcases dO m with a|a
   ·subst a;simp only[fW]at b;omega
   exact a
  exact Lj (l:=e::r) _ 1 0 [] (aN _) h.2 (by simp[ic,fS,h.1.2]) m c d b
theorem xb{l:List Ev}:∀(k j:Nat),j<(ic l k).length->(ic l k).getD j 0<k
 |0,j,h=>by simp[ic]at h
 |k+1,j,h=>by
  simp only[ic]at h |-
  split at h
  ·rename_i b;rw[aB b];simp only[aC,aH]at h;by_cases c:j<(ic l k).length
   ·have:=xb k j c;simp only[aG,cA c]at this |-
    omega
   have:j=(ic l k).length:=by omega
   subst this;simp
  rename_i b;rw[aA b];split at h
  ·rename_i a;rw[aB a];simp only[aZ]at h;have:=xb (l:=l) k j (by omega);simp only[aG,cH,aB (show j<(ic l k).length-1 by omega)]at this |-
   omega
  rename_i a;rw[aA a];have:=xb k j h;omega
end Go.Pl
namespace Go.Pl
theorem vz{s:List Nat}(h:0<s.length):nI s=s.getD (s.length-1) 0:=by unfold nI;rw[aA (by omega)]
theorem P8{s:List Nat}(h:¬0<s.length):nI s = -1:=by unfold nI;rw[aB (by omega)]
end Go.Pl
namespace Go.Pl
theorem Lq{l:List Ev}:∀(k:Nat),(ic l k).length<=k
 |0=>by simp[ic]
 |k+1=>by
  have:=Lq (l:=l) k;simp only[ic];split
  ·simp;omega
  split
  ·simp;omega
  omega
end Go.Pl
namespace Go.Pl
theorem Px{α β:Type}{g:α->β}{s:List α}{m j:Nat}(z:β)(h:j<(s.take m).length):((s.take m).map g).getD j z=(s.map g).getD j z:=by
 have a:j<m:=by simp at h;omega
 simp only[aG,cu,cH,aB a]
theorem OV{K:Int}{t:Int}{i j:Nat}{e:Int}{A:Int->Go.Vg.SV}(d:K=7)(f:0<=t)(g:t<i) :
  (if j=t.toNat then(if j=i then[A (-1)]else[A e]).set 0 (A i)else if j=i then[A (-1)]else[A e])=[A (if j=i then(if(ie K&&!fS K)=true then(i:Int)else -1)else if K=7/\t=j then(i:Int)else e)]:=by
 subst d;have b:(ie 7&&!fS 7)=false:=by decide
 rw[b];by_cases a:j=i
 ·rw[aA (by omega),aB a,aB a];rfl
 by_cases c:t=j
 ·rw[aB (by omega),aA a,aA a,aB ⟨rfl,c⟩];rfl
 rw[aA (by omega),aA a,aA a,aA (fun h=>c h.2)]
theorem EX{s:Nat->List Nat}{i j:Nat}{A:Int->Go.Vg.SV}(h:¬0<(s i).length):(if j=i then[A (-1)]else[A (if j<i then nI (s j)else 0)])=[A (if j<i+1 then nI (s j)else 0)]:=by
 by_cases a:j=i
 ·subst a;rw[aB rfl,aB (by omega),P8 h]
 rw[aA a];by_cases b:j<i
 ·rw[aB b,aB (by omega)]
 rw[aA b,aA (by omega)]
end Go.Pl
namespace Go.Pl
theorem A4{s:Nat->List Nat}{i j:Nat}{A:Int->Go.Vg.SV}{G e:Int}(h:G=nI (s i)):(if j=i then(if j=i then[A (-1)]else[A e]).set 0 (A G)else if j=i then[A (-1)]else[A (if j<i then nI (s j)else 0)])=[A (if j<i+1 then nI (s j)else 0)]:=by
 by_cases a:j=i
 ·subst a;rw[aB rfl,aB rfl,aB (by omega),h];rfl
 rw[aA a,aA a];by_cases b:j<i
 ·rw[aB b,aB (by omega)]
 rw[aA b,aA (by omega)]
end Go.Pl
namespace Go.Pl
theorem Mr{K:Int}{t:Int}{i j:Nat}{e:Int}{A:Int->Go.Vg.SV}(b:fS K=true) :
  (if j=i then[A (-1)]else[A e])=[A (if j=i then(if(ie K&&!fS K)=true then(i:Int)else -1)else if K=7/\t=j then(i:Int)else e)]:=by
 have c:K≠7:=by rintro rfl;exact absurd b (by decide)
 rw[b];by_cases a:j=i
 ·rw[aB a,aB a,aA (by simp)]
 rw[aA a,aA a,aA (fun h=>c h.1)]
end Go.Pl
namespace Go.Pl
end Go.Pl
end
section
namespace Go.Pl
def Cd(k:Int)(c:Nat):Nat:=if fS k then c+1 else if k=7 then c-1 else c
def yK(l:List Ev)(k c:Nat):Int:=if h:k<l.length then(if Cd (l.getD k ec).kind c=0 then(k:Int)else yK l (k+1) (Cd (l.getD k ec).kind c))else -1
termination_by l.length-k
theorem uf{l:List Ev}{k c:Nat}(h:k<l.length):yK l k c=if Cd (l.getD k ec).kind c=0 then(k:Int)else yK l (k+1) (Cd (l.getD k ec).kind c):=by rw[yK,bV h]
theorem AW{l:List Ev}{k c:Nat}(h:¬k<l.length):yK l k c = -1:=by rw[yK,cV h]
theorem jN{l:List Ev}{k:Nat}(h:fS (l.getD k ec).kind=true):ic l (k+1)=ic l k++[k]:=by simp only[ic];rw[aB h]
theorem mx{l:List Ev}{k:Nat}(h:(l.getD k ec).kind=7):ic l (k+1)=(ic l k).take ((ic l k).length-1):=by simp only[ic];rw[aA (by rw[h];decide),aB h]
theorem lf{l:List Ev}{k:Nat}(h:¬fS (l.getD k ec).kind=true)(a:(l.getD k ec).kind≠7):ic l (k+1)=ic l k:=by simp only[ic];rw[aA h,aA a]
theorem qj{l:List Ev}{k i:Nat}(h:i∈ic l k):i<k:=by obtain⟨j,d,rfl⟩:=eM.1 h;have:=xb (l:=l) k j d;simpa[List.getD,d]using this
theorem Cl{l:List Ev}{i m:Nat}(c:i<m)(f:i ∉ ic l m):∀n,i ∉ ic l (m+n)/\iC l (m+n) i=iC l m i
 |0=>⟨f,rfl⟩
 |n+1=>by
  obtain⟨b,j⟩:=Cl c f n;have a:i≠m+n:=by omega
  refine⟨?_, ?_⟩
  ·show i ∉ ic l (m+n+1);by_cases e:fS (l.getD (m+n) ec).kind=true
   ·rw[jN e];simp[b,a]
   by_cases d:(l.getD (m+n) ec).kind=7
   ·rw[mx d];exact fun h=>b (List.mem_of_mem_take h)
   rw[lf e d];exact b
  show iC l (m+n+1) i=iC l m i;simp only[iC];rw[aA a,aA,j];rintro⟨_,g⟩;apply b;unfold nI at g;split at g
  ·omega
  rename_i k;have:(ic l (m+n)).getD ((ic l (m+n)).length-1) 0=i:=by omega
  rw[<-this];rw[aG,aS (by omega)];exact gf _
theorem pu{l:List Ev}:∀(k p q:Nat),p<q->q<(ic l k).length->(ic l k).getD p 0<(ic l k).getD q 0
 |0,p,q,_,h=>by simp[ic]at h
 |k+1,p,q,a,h=>by
  by_cases d:fS (l.getD k ec).kind=true
  ·rw[jN d]at h |-
   simp only[aC,aH]at h;by_cases e:q<(ic l k).length
   ·have:=pu (l:=l) k p q a e;simp only[aG,cA e,cA (show p<(ic l k).length by omega)]at this |-
    exact this
   have b:q=(ic l k).length:=by omega
   subst b;have:=xb (l:=l) k p (by omega);simp only[aG,cA (show p<(ic l k).length by omega)]at this |-
   simpa using this
  by_cases c:(l.getD k ec).kind=7
  ·rw[mx c]at h |-
   simp only[aZ]at h;have:=pu (l:=l) k p q a (by omega);simp only[aG,cH,aB (show p<(ic l k).length-1 by omega),aB (show q<(ic l k).length-1 by omega)]at this |-
   exact this
  rw[lf d c]at h |-
  exact pu k p q a h
end Go.Pl
namespace Go.Pl
theorem vP{l:List Ev}{i m:Nat}(a:i<m)(b:i ∉ ic l m)(hm:m<=l.length):iC l l.length i=iC l m i:=by have:=(Cl a b (l.length-m)).2;rwa[show m+(l.length-m)=l.length by omega]at this
theorem ss{l:List Ev}(q:eQ l=true):∀(n k i p:Nat),l.length-k<=n->k<=l.length->i<k->p<(ic l k).length->(ic l k).getD p 0=i->iC l k i = -1->yK l k ((ic l k).length-p)=iC l l.length i
 |n,k,i,p,y,z,t,hp,a,he=>by
  by_cases g:k<l.length
  ·have v:l.length-(k+1)<l.length-k:=by omega
   rw[uf g];have e:i≠k:=by omega
   by_cases c:fS (l.getD k ec).kind=true
   ·have b:(l.getD k ec).kind≠7:=fun h=>by rw[h]at c;cases c
    have d:Cd (l.getD k ec).kind ((ic l k).length-p)=(ic l (k+1)).length-p:=by unfold Cd;rw[aB c,jN c];simp;omega
    rw[d,aA (by rw[jN c];simp;omega)];refine ss q (n-1) (k+1) i p (by omega) (by omega) (by omega) (by rw[jN c];simp;omega) ?_ ?_
    ·rw[jN c];simp only[aG,cA hp]at a |-
     exact a
    simp only[iC];rw[aA e,aA (fun h=>b h.1)];exact he
   by_cases b:(l.getD k ec).kind=7
   ·have d:Cd (l.getD k ec).kind ((ic l k).length-p)=(ic l k).length-p-1:=by unfold Cd;rw[aA c,aB b]
    rw[d];by_cases w:p+1=(ic l k).length
    ·have r:p=(ic l k).length-1:=by omega
     rw[aB (by omega)];have m:nI (ic l k)=i:=by rw[vz (by omega),<-r,a]
     have o:iC l (k+1) i=k:=by simp only[iC];rw[aA e,aB ⟨b,m⟩]
     rw[<-o];refine(vP (by omega) ?_ (by omega)).symm;rw[mx b];intro hm;obtain⟨j,u,f⟩:=eM.1 hm;simp only[aZ]at u;have:=pu (l:=l) k j p (by omega) hp;rw[a]at this;simp only[fP]at f;rw[aG,aS (by omega)]at this;simp only[fK,f]at this;omega
    rw[aA (by omega)];have s:(ic l k).length-p-1=(ic l (k+1)).length-p:=by rw[mx b];simp;omega
    rw[s];refine ss q (n-1) (k+1) i p (by omega) (by omega) (by omega) (by rw[mx b];simp;omega) ?_ ?_
    ·rw[mx b];simp only[aG,cH,aB (show p<(ic l k).length-1 by omega)]at a |-
     exact a
    simp only[iC];rw[aA e,aA]
    ·exact he
    rintro⟨_,x⟩;have:=pu (l:=l) k p ((ic l k).length-1) (by omega) (by omega);rw[vz (by omega)]at x;omega
   have d:Cd (l.getD k ec).kind ((ic l k).length-p)=(ic l (k+1)).length-p:=by unfold Cd;rw[aA c,aA b,lf c b]
   rw[d,aA (by rw[lf c b];omega)];refine ss q (n-1) (k+1) i p (by omega) (by omega) (by omega) (by rw[lf c b];exact hp) (by rw[lf c b];exact a) ?_;simp only[iC];rw[aA e,aA (fun h=>b h.1)];exact he
  rw[AW g,<-he,show l.length=k by omega]
termination_by _ k=>l.length-k
theorem FK{l:List Ev}(n:eQ l=true){i:Nat}(k:i<l.length):iC l l.length i=if ie (l.getD i ec).kind then yK l i 0 else -1:=by
 have f:∀s:List Nat,(∀j∈s,j<i)->i ∉ s:=fun s h hm=>fU _ (h i hm);by_cases b:fS (l.getD i ec).kind=true
 ·have a:ie (l.getD i ec).kind=true:=by unfold ie;rw[b];rfl
  rw[aB a,uf k];have e:Cd (l.getD i ec).kind 0=1:=by unfold Cd;rw[aB b]
  rw[e,aA (by omega)];have m:(ic l (i+1)).length-(ic l i).length=1:=by rw[jN b];simp
  have:=ss n _ (i+1) i (ic l i).length (aN _) (by omega) (by omega) (by rw[jN b];simp) (by rw[jN b];simp) (by simp only[iC,dy];rw[b];simp);rw[m]at this;exact this.symm
 have g:i ∉ ic l (i+1):=by
  intro hm;by_cases c:(l.getD i ec).kind=7
  ·rw[mx c]at hm;exact fU _ (qj (List.mem_of_mem_take hm))
  rw[lf b c]at hm;exact fU _ (qj hm)
 rw[vP (by omega) g (by omega)];simp only[iC,dy];have d:fS (l.getD i ec).kind=false:=by simpa using b
 rw[d];by_cases a:ie (l.getD i ec).kind=true
 ·rw[aB a,aB (by rw[a];rfl),uf k];have c:(l.getD i ec).kind≠7:=fun h=>by rw[h]at a;cases a
  rw[aB (by unfold Cd;rw[aA b,aA c])]
 rw[aA a,aA (fun h=>a (by simpa using h))]
end Go.Pl
end
section
namespace Go.Pl
theorem Gi:∀(l:List Ev) (d:Int) (o:iB),oY l d o=true->∀i,i<l.length->kz (l.getD i ec)=true
 |[],_,_,_,i,h=>by simp at h
 |e::r,d,o,h,i,b=>by
  simp only[oY,aD]at h;obtain⟨c,a⟩:=h;cases i with
  |zero=>exact c
  |succ i=>
   split at a
   ·rw[gg.1 a]at b;simp at b
   split at a
   ·simp only[aD]at a;rw[gg.1 a.1]at b;simp at b
   simp only[aD]at a;have:=Gi r _ _ a.2 i (by simp at b;omega);simpa using this
theorem sr{l:List Ev}(a:eQ l=true){i:Nat}(b:i<l.length):kz (l.getD i ec)=true:=by
 match l,a with
 |e::r,a=>
  simp only[eQ,aD]at a;cases i with
  |zero=>exact a.1.1
  |succ i=>have:=Gi r _ _ a.2 i (by simp at b;omega);simpa using this
theorem tz{l:List Ev}(a:eQ l=true):2<=l.length:=by
 rcases aU l.length 2 with h|h
 ·rw[zS (.inl h)]at a;cases a
 exact h
theorem uY{l:List Ev}(a:eQ l=true):(l.getD 0 ec).kind=1:=by
 by_cases h:(l.getD 0 ec).kind=1
 ·exact h
 rw[zS (.inr (.inl h))]at a;cases a
theorem HV{e:Ev}(h:kz e=true)(b:e.kind=6):e.text≠[]:=by intro a;simp[kz,b,a]at h
theorem JE{l:List Ev}:∀(n:Nat),0<n->kO l n<n
 |0,h=>absurd h (fU _)
 |n+1,_=>by
  simp only[kO];split
  ·omega
  cases n with
  |zero=>simp[kO]
  |succ n=>have:=JE (l:=l) (n+1) (by omega);omega
theorem zd{l:List Ev}:∀(n j:Nat),kO l n<j->j<n->(l.getD j ec).kind≠2
 |0,j,_,h=>absurd h (aT _)
 |n+1,j,h,b=>by
  simp only[kO]at h;split at h
  ·omega
  rename_i a;by_cases e:j=n
  ·subst e;exact a
  exact zd n j h (by omega)
theorem JD{l:List Ev}:∀(n:Nat),kO l n=0\/(l.getD (kO l n) ec).kind=2
 |0=>.inl rfl
 |n+1=>by
  simp only[kO];split
  ·rename_i h;exact .inr h
  exact JD n
theorem Lk{l:List Ev}:∀(n k c:Nat) (i:Nat),l.length-k<=n->0<c->yK l k c=i->(l.getD i ec).kind=7
 |n,k,c,i,b,f,h=>by
  by_cases d:k<l.length
  ·rw[uf d]at h;split at h
   ·rename_i a;have:k=i:=by omega
    subst this;unfold Cd at a;split at a
    ·omega
    split at a
    ·rename_i e;exact e
    omega
   match n,b with
   |n+1,b=>exact Lk n (k+1) _ i (by omega) (by omega) h
   |0,b=>omega
  rw[AW d]at h;omega
theorem My{l:List Ev}{k i:Nat}(d:k≠i)(c:(l.getD i ec).kind≠7):yK l k 0≠i:=by
 intro h;by_cases b:k<l.length
 ·rw[uf b]at h;split at h
  ·omega
  exact c (Lk _ _ _ _ (aN _) (by omega) h)
 rw[AW b]at h;omega
def lz(l:List Ev)(i:Nat):Nat->Int
 |0 => -1
 |k+1=>if(l.getD k ec).kind=2 then -1 else if ie (l.getD k ec).kind=true/\(l.getD k ec).anchor≠[]/\(l.getD k ec).anchor=(l.getD i ec).text then(if yK l k 0<0\/yK l k 0>i then -1 else(k:Int))else lz l i k
def H9(l:List Ev)(i:Nat)(d:Int):Nat->Int
 |0 => -1
 |k+1=>if(k:Int)>d then(if ie (l.getD k ec).kind=true/\(l.getD k ec).anchor=(l.getD i ec).text then(if(mn l).getD k 0<0\/(mn l).getD k 0>=i then -1 else(k:Int))else H9 l i d k)else -1
theorem zh{l:List Ev}(b:eQ l=true){k:Nat}(a:k<l.length):(mn l).getD k 0=if ie (l.getD k ec).kind then yK l k 0 else -1:=by unfold mn;rw[cI a,FK b a]
theorem Nj{l:List Ev}(e:eQ l=true){i:Nat}(j:i<l.length)(f:(l.getD i ec).kind=6):∀k,k<=i->H9 l i (kO l (i+1):Nat) k=if kO l (i+1)<k then lz l i k else -1
 |0,_=>by simp[H9]
 |k+1,d=>by
  have p:=HV (sr e j) f;simp only[H9,lz];by_cases hd:kO l (i+1)<k
  ·have o:=zd (l:=l) (i+1) k hd (by omega);rw[aB (show(k:Int)>((kO l (i+1):Nat):Int) by omega),aB (show kO l (i+1)<k+1 by omega),aA o];by_cases a:ie (l.getD k ec).kind=true/\(l.getD k ec).anchor=(l.getD i ec).text
   ·have b:ie (l.getD k ec).kind=true/\(l.getD k ec).anchor≠[]/\(l.getD k ec).anchor=(l.getD i ec).text:=⟨a.1,by rw[a.2];exact p,a.2⟩
    rw[aB a,aB b,zh e (by omega),aB a.1];have:=My (l:=l) (k:=k) (i:=i) (by omega) (by rw[f];decide);by_cases m:yK l k 0<0\/yK l k 0>i
    ·rw[aB m,aB (by omega)]
    rw[aA m,aA (by omega)]
   have b:¬(ie (l.getD k ec).kind=true/\(l.getD k ec).anchor≠[]/\(l.getD k ec).anchor=(l.getD i ec).text):=fun h=>a ⟨h.1,h.2.2⟩;rw[aA a,aA b,Nj e j f k (by omega),aB hd]
  rw[aA (by omega)];split
  ·have d:k=kO l (i+1):=by omega
   rcases JD (l:=l) (i+1)with c|c
   ·rw[c]at d;subst d;have n:=uY e;rw[aA (by omega),aA (by rw[n];simp[ie,fS])];rfl
   rw[<-d]at c;rw[aB c]
  rfl
theorem Nk{l:List Ev}(b:eQ l=true){i:Nat}(e:i<l.length)(d:(l.getD i ec).kind=6):H9 l i (kO l (i+1):Nat) i=lz l i i:=by
 rw[Nj b e d i (aN _)];split
 ·rfl
 rename_i h;have f:kO l (i+1)=kO l i:=by simp only[kO];rw[aA (by omega)]
 have c:i=0:=by
  rcases dO i with a|a
  ·exact a
  have:=JE (l:=l) i a;omega
 subst c;have:=uY b;omega
end Go.Pl
namespace Go.Pl
theorem Di{l:List Ev}:∀(n k c:Nat),l.length-k<=n->0<=yK l k c->(k:Int)<=yK l k c/\yK l k c<l.length
 |n,k,c,a,h=>by
  by_cases b:k<l.length
  ·rw[uf b]at h |-
   split
   ·omega
   rename_i d;rw[aA d]at h
   match n,a with
   |n+1,a=>have:=Di n (k+1) _ (by omega) h;omega
   |0,a=>omega
  rw[AW b]at h;omega
theorem yw{l:List Ev}{i:Nat}:∀k,lz l i k<k
 |0=>by simp[lz]
 |k+1=>by
  simp only[lz]
  repeat' split
  ·omega
  ·omega
  ·omega
  have:=yw (l:=l) (i:=i) k;omega
end Go.Pl
namespace Go.Pl
open Go.Pl
end Go.Pl
namespace Go.Pl
end Go.Pl
namespace Go.Pl
end Go.Pl
namespace Go.Pl
end Go.Pl
end
