/- Own text: part VAP. -/
import Derived.Test.YtgippllfnmdnpaaGreatDoorVAO
import Derived.Shelf.Unicode.DecodeSlow
set_option linter.all false
section
namespace Go.Pl
def HH(h:Hd):Bool:=MJ h.name&&(decide (1<=h.pre.length)&&decide (h.pre.length<=60))&&h.pre.all fun b=>decide (33<=b.toNat)&&decide (b.toNat<=126)
def lY(s:Bs)(p:Nat):Bool:=decide (bW s p=37)&&decide (gL s p=0)
def qG(s:Bs)(p:Nat):List Bs:=kN s (en s p) p
def Qn:Bs:=[37,89,65,77,76]
def I6:Bs:=[37,84,65,71]
def uT(s:Bs)(p:Nat):Bool:=decide ((qG s p).getD 0 []=Qn)&&decide ((qG s p).length=2)
def vX(s:Bs)(p:Nat):Bool:=decide ((qG s p).getD 0 []=I6)&&decide ((qG s p).length=3)
def Bx(s:Bs)(p:Nat):Hd:=⟨(qG s p).getD 1 [],(qG s p).getD 2 []⟩
def uG(s:Bs)(r:Rd)(y:Bool):Bool:=
 if uT s r.pos=true then(decide ((qG s r.pos).getD 1 []=[49,46,49])||decide ((qG s r.pos).getD 1 []=[49,46,50]))&&!y
 else if vX s r.pos=true then HH (Bx s r.pos)&&r.hd.all fun h=>!decide (h.name=(Bx s r.pos).name)
 else false
def mD(s:Bs)(r:Rd):List Hd:=if uT s r.pos=true then r.hd else if vX s r.pos=true then r.hd++[Bx s r.pos]else r.hd
def By(s:Bs)(p:Nat)(y:Bool):Bool:=uT s p||y
def lj(r:Rd)(l:List Hd):Rd:={ r with hd:=l }
def lN(s:Bs)(r:Rd)(y:Bool):Rd:=
 if uG s r y=false then er (lj r (mD s r)) 13 r.pos
 else if ib s (dR s (en s r.pos))=1\/lY s (dR s (en s r.pos))=true then atR (lj r (mD s r)) (dR s (en s r.pos))
 else er (atR (lj r (mD s r)) (dR s (en s r.pos))) 13 (dR s (en s r.pos))
def vO(s:Bs)(y:Bool)(r:Rd):Rd:=
 if lY s r.pos=true then(if(lN s r y).cd≠0 then lN s r y else if h:r.pos<(lN s r y).pos/\r.pos<s.length then vO s (By s r.pos y) (lN s r y)else r)else r
termination_by s.length-r.pos
decreasing_by omega
def ln:Ev:=⟨1,0,false,[],[],[],0,0⟩
def mQ(m:Bool):Ev:=⟨2,0,m,[],[],[],0,0⟩
def hY(m:Bool):Ev:=⟨8,0,m,[],[],[],0,0⟩
def Bz:Ev:=⟨9,0,false,[],[],[],0,0⟩
def uJ(c:Int)(p:Nat):Ev:=⟨10,0,false,[],[],[],(p:Nat),c⟩
def AV(s:Bs)(mark:Bool)(x:Rb):Rb:=
 if mark=false then(if(kB s x.r).cd≠0 then bI x (kB s x.r)else uE s 40 (-1) false false (bI x (kB s x.r)))
 else if(iA s (x.r.pos+3)).2=false then uE s 40 (-1) true false (bI x (atR x.r (wh s (x.r.pos+3))))
 else if(jn s x.r (x.r.pos+3)).cd≠0 then bI x (jn s x.r (x.r.pos+3))
 else if fV s (jn s x.r (x.r.pos+3)).pos=true then qJ x (jn s x.r (x.r.pos+3)) (kF 0) (iA s (x.r.pos+3)).1
 else uE s 40 (-1) false false (bI x (jn s x.r (x.r.pos+3)))
def sZ(s:Bs)(r:Rd):Rd:=if(iA s (r.pos+3)).2=false then er r 8 (iA s (r.pos+3)).1 else atR r (iA s (r.pos+3)).1
def QC(s:Bs)(z:Rb):Rb:=
 if fV s z.r.pos=false then bI z (er z.r 9 z.r.pos)
 else if ib s z.r.pos=2 then(if(sZ s z.r).cd≠0 then bI z (sZ s z.r)else bI z (bB (sZ s z.r) (hY true) true))
 else bI z (bB z.r (hY false) true)
def ka(s:Bs)(r:Rd):Rd:=vO s false { r with bs:=r.ev.length,hd:=[] }
def DO(s:Bs)(m:Bool)(x:Rb):Rb:=AV s m ⟨bB x.r (mQ m) true,false,x.lt⟩
def zc(s:Bs)(x:Rb):Rb:=
 if(ka s x.r).cd≠0 then bI x (ka s x.r)
 else if(DO s (decide (ib s (ka s x.r).pos=1)) (bI x (ka s x.r))).r.cd≠0 then DO s (decide (ib s (ka s x.r).pos=1)) (bI x (ka s x.r))
 else if(nG s (DO s (decide (ib s (ka s x.r).pos=1)) (bI x (ka s x.r)))).r.cd≠0 then nG s (DO s (decide (ib s (ka s x.r).pos=1)) (bI x (ka s x.r)))
 else QC s (nG s (DO s (decide (ib s (ka s x.r).pos=1)) (bI x (ka s x.r))))
def Dl(s:Bs)(x:Rb):Rb:=if ib s x.r.pos=2 then bI x (sZ s x.r)else zc s x
def vI(s:Bs)(x:Rb):Rb:=
 if s.length<=dR s x.r.pos then bI x (bB (atR x.r (dR s x.r.pos)) Bz true)
 else if(Dl s (bI x (atR x.r (dR s x.r.pos)))).r.cd≠0 then Dl s (bI x (atR x.r (dR s x.r.pos)))
 else if h:x.r.pos<(Dl s (bI x (atR x.r (dR s x.r.pos)))).r.pos/\x.r.pos<s.length then vI s (Dl s (bI x (atR x.r (dR s x.r.pos))))else x
termination_by s.length-x.r.pos
decreasing_by omega
def xV(s:Bs):Rd:=(vI s ⟨bB (oS 0) ln true,false,0⟩).r
def Rv(cl:Nat)(s:Bs):List Ev:=
 if 60000<s.length then[ln,uJ 1 60000]else if cl≠s.length then[ln,uJ 1 cl]else if(xV s).cd≠0 then(xV s).ev++[uJ (xV s).cd (xV s).pl]else(xV s).ev
structure yv(s:Bs)(r:Rd):Prop where
 ok:Ok s r
 dp:r.dp=0
 sz:r.ev.length<=8*r.pos+62
theorem EF{s:Bs}{r:Rd}(h:(sZ s r).cd=0):sZ s r=atR r (iA s (r.pos+3)).1/\(iA s (r.pos+3)).2=true:=by
 unfold sZ at h |-
 split
 ·rename_i a;rw[aB a]at h;simp[er]at h
 rename_i a;exact⟨rfl,by simpa using a⟩
theorem jH{s:Bs}{p:Nat}(h:ib s p≠0):p+3<=s.length/\la s p=p:=by
 unfold ib at h;split at h
 ·rename_i a;exact⟨a.2.1,a.1⟩
 exact absurd rfl h
theorem Ns(s:Bs)(r:Rd)(y:Bool):(lN s r y).ev=r.ev:=by unfold lN;(repeat' split)<;>rfl
structure DD(s:Bs)(r:Rd):Prop where
 cd:r.cd=0
 pos:r.pos<=s.length
 dn:r.dn.length=r.ev.length
 bs:r.bs<=r.ev.length
 dp:r.dp=0
 sz:r.ev.length<=8*r.pos+62
 hd:r.hd.length<=r.pos
 pf:∀h∈r.hd,h.pre.length<=60
theorem pJ{s:Bs}{p:Nat}(h:lY s p=true):bW s p=37/\p<s.length/\la s p=p:=by unfold lY gL at h;simp only[aD,aE]at h;exact⟨h.1,cE h.1 (by decide),by have:=nP s p;omega⟩
theorem Ic{s:Bs}{r:Rd}{y:Bool}(b:DD s r)(hd:lY s r.pos=true)(e:(lN s r y).cd=0):lN s r y=atR (lj r (mD s r)) (dR s (en s r.pos))/\DD s (lN s r y)/\r.pos<(lN s r y).pos:=by
 obtain⟨f,o,p⟩:=pJ hd;have n:kH s r.pos=false:=by unfold kH;rw[f];decide
 have q:=FI n;have j:=jF s r.pos (cJ o);have t:=fq s (en s r.pos);have k:=ez s (en s r.pos) j;unfold lN at e |-
 split
 ·rename_i h;rw[aB h]at e;simp[er]at e
 rename_i h;rw[aA h]at e;split
 ·refine⟨rfl,⟨b.cd,k,b.dn,b.bs,b.dp, ?_, ?_, ?_⟩,by simp only[atR];omega⟩
  ·have:=b.sz;simp only[atR,lj];omega
  ·have u:=b.hd;simp only[atR,lj,mD]
   repeat' split
   all_goals(try simp only[aC,aH]);omega
  intro x d;simp only[atR,lj,mD]at d;split at d
  ·exact b.pf x d
  rename_i g;split at d
  ·rename_i l;rcases dh.1 d with i|i
   ·exact b.pf x i
   have m:x=Bx s r.pos:=by simpa using i
   have a:uG s r y=true:=by simpa using h
   unfold uG at a;rw[aA g,aB l]at a;simp only[aD]at a;have c:=a.1;unfold HH at c;simp only[aD,aE]at c;rw[m];exact c.1.2.2
  exact b.pf x d
 rename_i g;rw[aA g]at e;simp[er]at e
theorem T1{s:Bs}:∀(n:Nat) (y:Bool) (r:Rd),s.length-r.pos=n->DD s r->((vO s y r).ev=r.ev/\(vO s y r).bs=r.bs/\((vO s y r).cd=0->DD s (vO s y r)/\r.pos<=(vO s y r).pos/\lY s (vO s y r).pos=false)):=by
 intro n
 induction n using Nat.strongRecOn with
 |ind n m=>
 intro y r v h;rw[vO];by_cases d:lY s r.pos=true
 ·rw[aB d];by_cases f:(lN s r y).cd=0
  ·rw[aA (by simpa using f)];obtain⟨e,j,k⟩:=Ic h d f;have l:=(pJ d).2.1;rw[bV ⟨k,l⟩];obtain⟨o,p,q⟩:=m (s.length-(lN s r y).pos) (by omega) (By s r.pos y) (lN s r y) rfl j;refine⟨by rw[o,Ns],by rw[p,e];rfl,fun g=>?_⟩;obtain⟨t,w,u⟩:=q g;exact⟨t,by omega,u⟩
  rw[aB f];refine⟨Ns s r y, ?_,fun g=>absurd g f⟩;unfold lN;(repeat' split)<;>rfl
 rw[aA d];exact⟨rfl,rfl,fun _=>⟨h,aN _,by simpa using d⟩⟩
theorem H7{s:Bs}{r:Rd}(a:yv s r):(ka s r).ev=r.ev/\(ka s r).bs=r.ev.length/\((ka s r).cd=0->DD s (ka s r)/\r.pos<=(ka s r).pos/\lY s (ka s r).pos=false):=
 T1 _ false { r with bs:=r.ev.length,hd:=[] } rfl ⟨a.ok.cd,a.ok.pos,a.ok.dn,aN _,a.dp,a.sz,bF _,fun h b=>by simp at b⟩
theorem Pf{s:Bs}{m:Bool}{x:Rb}(d:Ok s x.r)(hd:x.r.dp=0)(hm:m=true->x.r.pos+3<=s.length)(a:(AV s m x).r.cd=0):xh s x.r (AV s m x).r:=by
 unfold AV at a |-
 split
 ·rename_i h;rw[aB h]at a;split
  ·rename_i b;rw[aB b]at a;exact absurd a b
  rename_i b;rw[aA b]at a;rw[uW (show(kB s x.r).cd=0 by simpa using b)]at a |-
  exact sQ 40 _ _ _ (bI x x.r) d (by show x.r.dp+40=40;omega) a
 rename_i h;rw[aA h]at a;have f:=hm (by simpa using h);have k:=gV (s:=s) (p:=x.r.pos+3) f;have l:=gY s (x.r.pos+3);have g:=gO s (x.r.pos+3) f;have j:=fq s (x.r.pos+3);have e:=ez s (x.r.pos+3) f;split
 ·rename_i b;rw[aB b]at a;exact xh.TL (q:=wh s (x.r.pos+3)) (sQ 40 _ _ _ (bI x (atR x.r (wh s (x.r.pos+3)))) (d.at (by omega) g) (by show x.r.dp+40=40;omega) a) (by omega)
 rename_i b;rw[aA b]at a;split
 ·rename_i c;rw[aB c]at a;exact absurd a c
 rename_i c;rw[aA c]at a;rw[jU (show(jn s x.r (x.r.pos+3)).cd=0 by simpa using c)]at a |-
 split
 ·exact sF (q:=x.r.pos) d (by omega) k.2
 rename_i i;rw[aA i]at a;exact xh.TL (q:=dR s (x.r.pos+3)) (sQ 40 _ _ _ (bI x (atR x.r (dR s (x.r.pos+3)))) (d.at (by omega) e) (by show x.r.dp+40=40;omega) a) (by omega)
theorem UZ{s:Bs}{m:Bool}{x:Rb}(a:Ok s x.r)(hd:x.r.dp=0)(hm:m=true->x.r.pos+3<=s.length):Sz s (AV s m x).r:=by
 have k:=a.sz;have j:=a.pos;unfold AV;split
 ·split
  ·show(kB s x.r).ev.length<=_;rw[Nu];omega
  rename_i e;rw[uW (show(kB s x.r).cd=0 by simpa using e)];exact DI 40 _ _ _ (bI x x.r) a (by show x.r.dp+40=40;omega)
 rename_i h;have d:=hm (by simpa using h);have i:=gY s (x.r.pos+3);have c:=gO s (x.r.pos+3) d;have g:=fq s (x.r.pos+3);have b:=ez s (x.r.pos+3) d;split
 ·exact DI 40 _ _ _ (bI x (atR x.r (wh s (x.r.pos+3)))) (a.at (by omega) c) (by show x.r.dp+40=40;omega)
 split
 ·show(jn s x.r (x.r.pos+3)).ev.length<=_;rw[JQ];omega
 rename_i f;rw[jU (show(jn s x.r (x.r.pos+3)).cd=0 by simpa using f)];split
 ·simp only[Sz,qJ,BD,atR,cY,bB,aC,aH];omega
 exact DI 40 _ _ _ (bI x (atR x.r (dR s (x.r.pos+3)))) (a.at (by omega) b) (by show x.r.dp+40=40;omega)
theorem DD.tell{s:Bs}{r:Rd}{m:Bool}(h:DD s r)(d:s.length<=1048576):Ok s (bB r (mQ m) true):=
 ⟨h.cd,h.pos,by simp[bB,h.dn],by simp only[bB,aC];have:=h.bs;omega,by show r.dp<=40;rw[h.dp];omega,by simp only[bB,aC,aH];have:=h.sz;omega,by have:=h.hd;have:=h.pos;show r.hd.length<=_;omega,fun x c=>by have:=h.pf x c;omega⟩
theorem R2{s:Bs}{m:Bool}{x:Rb}(b:s.length<=1048576)(a:DD s x.r)(hm:m=true->ib s x.r.pos=1)(c:(DO s m x).r.cd=0):xh s (bB x.r (mQ m) true) (DO s m x).r:=
 Pf (x:=⟨bB x.r (mQ m) true,false,x.lt⟩) (a.tell b) a.dp (fun h=>(jH (s:=s) (p:=x.r.pos) (by rw[hm h];decide)).1) c
theorem TX{s:Bs}{m:Bool}{x:Rb}(b:s.length<=1048576)(a:DD s x.r)(hm:m=true->ib s x.r.pos=1):Sz s (DO s m x).r:=
 UZ (x:=⟨bB x.r (mQ m) true,false,x.lt⟩) (a.tell b) a.dp (fun h=>(jH (s:=s) (p:=x.r.pos) (by rw[hm h];decide)).1)
theorem VW{s:Bs}{x:Rb}(E:s.length<=1048576)(D:yv s x.r)(a:(zc s x).r.cd=0):yv s (zc s x).r/\x.r.pos<(zc s x).r.pos:=by
 obtain⟨H,I,A⟩:=H7 D;unfold zc at a |-
 split
 ·rename_i h;rw[aB h]at a;exact absurd a h
 rename_i h;rw[aA h]at a;obtain⟨k,J,K⟩:=A (by simpa using h);split
 ·rename_i d;rw[aB d]at a;exact absurd a d
 rename_i d;rw[aA d]at a;have i:xh s (bB (ka s x.r) (mQ (decide (ib s (ka s x.r).pos=1))) true) (DO s (decide (ib s (ka s x.r).pos=1)) (bI x (ka s x.r))).r:=R2 (m:=decide (ib s (ka s x.r).pos=1)) (x:=bI x (ka s x.r)) E k (fun h=>aW h) (Decidable.not_not.1 d);split
 ·rename_i f;rw[aB f]at a;exact absurd a f
 rename_i f;rw[aA f]at a;have C:=wb (s:=s) (x:=DO s (decide (ib s (ka s x.r).pos=1)) (bI x (ka s x.r))) (by simpa using f);rw[C]at a |-
 generalize DO s (decide (ib s (ka s x.r).pos=1)) (bI x (ka s x.r))=v at *;have c:=i.ok;have o:=i.lt;have g:=i.AJ;have l:=i.dp;have u:=k.sz;have t:=k.dp;have B:=fq s v.r.pos;have n:=ez s v.r.pos c.pos;simp only[bB,aC,aH]at o g l;have w:∀(q:Nat) (e:Ev),dR s v.r.pos<=q->q<=s.length->yv s (bB (atR v.r q) e true):=fun q e L F=>
  ⟨⟨c.cd,F,by simp[bB,atR,c.dn],by simp only[bB,atR,aC];have:=c.bs;omega,by simp only[bB,atR];omega,by simp only[bB,atR,aC,aH];omega,c.hd,c.pf⟩,by simp only[bB,atR];omega,by simp only[bB,atR,aC,aH];omega⟩
 unfold QC at a |-
 simp only[bI]at a |-
 split
 ·rename_i j;rw[aB j]at a;simp[er]at a
 rename_i j;rw[aA j]at a;split
 ·rename_i r;rw[aB r]at a;split
  ·rename_i b;rw[aB b]at a;exact absurd a b
  rename_i b;obtain⟨z,G⟩:=EF (show(sZ s (atR v.r (dR s v.r.pos))).cd=0 by simpa using b);rw[z];have hm:=(jH (s:=s) (p:=(atR v.r (dR s v.r.pos)).pos) (by rw[r];decide)).1;have y:=gV hm;simp only[atR]at y hm |-
  exact⟨w _ _ (by omega) y.2,by simp only[bB];omega⟩
 exact⟨w _ _ (aN _) n,by simp only[bB,atR];omega⟩
theorem TW{s:Bs}{x:Rb}(i:s.length<=1048576)(b:yv s x.r):(zc s x).r.ev.length<=8*s.length+71:=by
 obtain⟨d,j,e⟩:=H7 b;have o:=b.sz;have n:=b.ok.pos;unfold zc;split
 ·show(ka s x.r).ev.length<=_;rw[d];omega
 rename_i h;obtain⟨f,k,l⟩:=e (by simpa using h);have c:Sz s (DO s (decide (ib s (ka s x.r).pos=1)) (bI x (ka s x.r))).r:=TX (m:=decide (ib s (ka s x.r).pos=1)) (x:=bI x (ka s x.r)) i f (fun h=>aW h);unfold Sz at c;split
 ·omega
 split
 ·rw[JP];omega
 generalize DO s (decide (ib s (ka s x.r).pos=1)) (bI x (ka s x.r))=v at *;have g:=JP s v;show(QC s (nG s v)).r.ev.length<=_;rw[<-g]at c;generalize nG s v=z at *;have a:(sZ s z.r).ev=z.r.ev:=by unfold sZ;split<;>rfl
 unfold QC;split
 ·simp only[bI,er];omega
 split
 ·split
  ·simp only[bI];rw[a];omega
  simp only[bI,bB,aC,aH];rw[a];omega
 simp only[bI,bB,aC,aH];omega
theorem Lm{s:Bs}{x:Rb}(e:s.length<=1048576)(b:yv s x.r)(a:(Dl s x).r.cd=0):yv s (Dl s x).r/\x.r.pos<(Dl s x).r.pos:=by
 unfold Dl at a |-
 split
 ·rename_i h;rw[aB h]at a;obtain⟨c,f⟩:=EF (show(sZ s x.r).cd=0 from a);have hm:=(jH (s:=s) (p:=x.r.pos) (by rw[h];decide)).1;have d:=gV hm;have g:=b.sz;simp only[bI];rw[c];exact⟨⟨b.ok.at (by omega) d.2,b.dp,by simp only[atR];omega⟩,by simp only[atR];omega⟩
 rename_i h;rw[aA h]at a;exact VW e b a
theorem Vh{s:Bs}{x:Rb}(c:s.length<=1048576)(b:yv s x.r):(Dl s x).r.ev.length<=8*s.length+71:=by
 unfold Dl;split
 ·have a:(sZ s x.r).ev=x.r.ev:=by unfold sZ;split<;>rfl
  have:=b.sz;have:=b.ok.pos;simp only[bI];rw[a];omega
 exact TW c b
theorem yv.gN{s:Bs}{r:Rd}(h:yv s r):yv s (atR r (dR s r.pos)):=
 ⟨h.ok.at (fq s _) (ez s _ h.ok.pos),h.dp,by have:=h.sz;have:=fq s r.pos;simp only[atR];omega⟩
theorem Ve{s:Bs}(e:s.length<=1048576):∀(n:Nat) (x:Rb),s.length-x.r.pos=n->yv s x.r->(vI s x).r.ev.length<=8*s.length+71:=by
 intro n
 induction n using Nat.strongRecOn with
 |ind n i=>
 intro x m b;have l:=b.sz;have k:=b.ok.pos;have d:=b.gN;have j:=fq s x.r.pos;rw[vI];by_cases c:s.length<=dR s x.r.pos
 ·rw[aB c];simp only[bI,bB,atR,aC,aH];omega
 rw[aA c];have h:=Vh (x:=bI x (atR x.r (dR s x.r.pos))) e d;by_cases a:(Dl s (bI x (atR x.r (dR s x.r.pos)))).r.cd=0
 ·rw[aA (by simpa using a)];obtain⟨f,g⟩:=Lm (x:=bI x (atR x.r (dR s x.r.pos))) e d a;simp only[bI,atR]at g;rw[bV ⟨by simp only[bI,atR];omega,by omega⟩];exact i _ (by simp only[bI,atR]at *;omega) _ rfl f
 rw[aB (by simpa using a)];exact h
theorem su(s:Bs):yv s (bB (oS 0) ln true):=
 ⟨⟨rfl,bF _,rfl,bF _,by simp[bB,oS],by simp[bB,oS],by simp[bB,oS],fun h a=>by simp[bB,oS]at a⟩,rfl,by simp[bB,oS]⟩
theorem IT{s:Bs}(a:s.length<=1048576):(xV s).ev.length<=8*s.length+71:=Ve a _ _ rfl (su s)
end Go.Pl
namespace Go.Pl
theorem QE{s:Bs}{e p:Nat}:∀x∈kN s e p,x.length<=s.length:=by
 fun_induction kN s e p with
 |case1 p q h c=>
  intro x b;rcases eA.1 b with a|a
  ·rw[a];simp only[sub,bK,aZ];omega
  ·exact c x a
 |case2 p q h=>intro x b;cases b
theorem JH{s:Bs}{p:Nat}(i:Nat):((qG s p).getD i []).length<=s.length:=by
 rw[aG];cases h:(qG s p)[i]? with
 |none=>simp
 |some x=>simp only[fK];exact QE x (dJ h)
theorem JJ{s:Bs}{p:Nat}(h:lY s p=true):0<(qG s p).length:=by
 obtain⟨a,e,f⟩:=pJ h;have c:nD s p=false:=by unfold nD;rw[a];decide
 have b:kH s p=false:=by unfold kH;rw[a];decide
 have d:=RQ c;unfold qG;rw[kN];simp only[d];rw[bV ⟨FI b,by rw[a];decide,by unfold gN;rw[c,b];rfl⟩];simp
theorem JI(s:Bs)(p:Nat)(h:p<=s.length):(qG s p).length<=s.length:=by have a:=No s (en s p) p;have b:=jF s p h;unfold qG;omega
end Go.Pl
end
section
namespace Go.Pl
def Bw(t:Bs):Nat×Nat:=Go.Lib.decodeGo ⟨t.toArray⟩
def yq(t:Bs):Nat×Nat:=if(Bw t).2=0\/((Bw t).1=65533/\(Bw t).2=1)then(0,0)else Bw t
def Im(r:Nat):Bool:=decide (r=9\/r=10\/(32<=r/\r<=126)\/(159<r/\r≠65279/\r≠65534/\r≠65535))
def vM(s:Bs)(p:Nat):Nat:=
 if h:p<s.length/\(yq (s.drop p)).2≠0/\Im (yq (s.drop p)).1=true/\p+(yq (s.drop p)).2<=s.length then vM s (p+(yq (s.drop p)).2)else p
termination_by s.length-p
decreasing_by omega
def xU(s:Bs):List Ev:=Rv (vM s 0) s
end Go.Pl
namespace Go.Pl
theorem Nh(t:Bs):(Bw t).1<=2097151/\(Bw t).2<=t.length:=by
 have a:(⟨t.toArray⟩:ByteArray).size=t.length:=by show t.toArray.size=_;exact fQ
 unfold Bw Go.Lib.decodeGo;rw[a];split
 ·exact⟨by decide,bF _⟩
 rename_i b;have hp:0<t.length:=Nat.pos_of_ne_zero b;unfold Go.Utf8.decode;simp only[a,Go.Utf8.runeError,aX]
 repeat' split
 all_goals(simp only[aD,aE,dx]at *;refine⟨by omega,by omega⟩)
theorem IY(t:Bs):(yq t).1<=2097151/\(yq t).2<=t.length:=by
 have:=Nh t;unfold yq;split
 ·exact⟨bF _,bF _⟩
 exact this
theorem H3(s:Bs)(p:Nat)(h:p<=s.length):vM s p<=s.length:=by
 fun_induction vM s p with
 |case1 p a b=>exact b a.2.2.2
 |case2 p a=>exact h
theorem VS{s:Bs}{p:Nat}(h:p<s.length)(a:(yq (s.drop p)).2≠0)(b:Im (yq (s.drop p)).1=true):vM s p=vM s (p+(yq (s.drop p)).2):=by
 have:=(IY (s.drop p)).2;rw[bK]at this
 conv=>lhs;rw[vM]
 rw[bV ⟨h,a,b,by omega⟩]
theorem VR{s:Bs}{p:Nat}(h:¬((yq (s.drop p)).2≠0/\Im (yq (s.drop p)).1=true)):vM s p=p:=by rw[vM,cV (fun a=>h ⟨a.2.1,a.2.2.1⟩)]
theorem VQ{s:Bs}{p:Nat}(h:¬p<s.length):vM s p=p:=by rw[vM,cV (fun a=>h a.1)]
end Go.Pl
end
section
namespace Go.Pl
theorem U9(s:Bs)(i:Nat)(L:List Pc)(cur:Bs)(h:i<=s.length):(sO s i L cur).1.length<=mm L+cur.length+2*(s.length-i)+1:=by
 fun_induction sO s i L cur with
 |case1 i L cur b e hm a=>
  have c:=gY s (i+1);have d:=gO s (i+1) b;have g:=mO 0 cur;have:=a d;rw[gh,jc]at this;simp only[aL]at this;omega
 |case2=>simp
 |case3 i L cur b e f a=>
  have j:=cE f.2 (by decide);have:=a (by omega);simp only[aC,aH]at this;omega
 |case4 i L cur b e f d=>
  have c:=vT (L++[⟨cur,false⟩]);rw[gh,jc]at c;simp only at c |-;omega
 |case5 i L cur b e f d a=>
  have:=a (by omega);simp only[aC,aH]at this;omega
 |case6=>simp
theorem TV(s:Bs)(i:Nat)(L:List Pc)(cur:Bs)(k:Nat)(h:i<=s.length):(oT s i L cur k).1.length<=mm L+cur.length+4*(s.length-i)+1:=by
 fun_induction oT s i L cur k with
 |case1 i L cur k c e hm b=>
  have d:=gY s (i+1);have a:=gO s (i+1) c;have j:=mO k cur;have:=b a;rw[gh,jc]at this;simp only[aL]at this;omega
 |case2=>simp
 |case3 i L cur k c e f hm b=>
  have n:=cE f.2 (by decide);have d:=gY s (i+2);have a:=gO s (i+2) (by omega);have:=b a;rw[gh,jc]at this;simp only[aL]at this;omega
 |case4=>simp
 |case5=>simp
 |case6 i L cur k c e f g he b=>
  have d:=DR s i;have a:=zm s i;have j:=DS s i;have l:¬(nY s i).2<=i:=by assumption
  have:=b a;have m:(cur++(nY s i).1).length=cur.length+(nY s i).1.length:=aC;omega
 |case7 i L cur k c e f g a=>
  have d:=vT (L++[⟨cur,false⟩]);rw[gh,jc]at d;simp only at d |-;omega
 |case8 i L cur k c e f g a b=>
  have:=b (by omega);simp only[aC,aH]at this;omega
 |case9=>simp
theorem UW{s:Bs}{p:Nat}(hp:p<s.length):(sv s p).1.length<=4*s.length+1:=by
 by_cases a:bW s p=34
 ·rw[show sv s p=oT s (p+1) [] [] 0 by unfold sv nC;rw[aB a,aB a]];have:=TV s (p+1) [] [] 0 hp;simp[mm]at this;omega
 by_cases b:bW s p=39
 ·rw[show sv s p=sO s (p+1) [] [] by unfold sv ny;rw[aA a,aB b]];have:=U9 s (p+1) [] [] hp;simp[mm]at this;omega
 rw[show sv s p=([],p,10) by unfold sv ny;rw[aA a,aA b]];simp
theorem yN(s:Bs)(a b:Nat):(sub s a b).length<=b-a/\(sub s a b).length<=s.length:=by simp only[sub,bK,aZ];omega
theorem UM(s:Bs)(e:Nat)(n:Int)(fl:Bool)(L:List Pc)(h:e<=s.length)(hw:mm L<=e+1):(B1 s e n fl L).1.length<=s.length+1:=by
 fun_induction B1 s e n fl L with
 |case1 e L a d=>
  have b:=oZ a;have c:=oG s (ml s e n fl).1 fl b.2.1;have f:=yN s (ml s e n fl).1 (kj s (ml s e n fl).1 fl);refine d c ?_;simp only[gh,jc,u0];omega
 |case2 e L a=>have:=vT L;simp only;omega
theorem US{s:Bs}{p:Nat}{n:Int}{fl:Bool}:(AK s p n fl).1.length<=s.length+1:=by
 unfold AK;split
 ·rename_i h;have b:=OT h;have a:=oG s p fl (cJ (gD (w5 h).1));have c:=yN s p (kj s p fl);refine UM s _ n fl _ a ?_;rw[jc];simp only;omega
 simp
theorem V6(s:Bs)(d f a:Nat)(h:a<=s.length):mj (pN s d f a).1<=s.length-a+1:=by
 fun_induction pN s d f a with
 |case1 a e i=>
  have j:=lW s a;have k:=jF s a h;have g:=jZ s (en s a);have l:=i g;have m:gZ s (en s a)=min (en s a+1) s.length:=rfl;have n:=yN s (a+d) (en s a);have b:mj (((if f<=a/\(js s a=false\/d<jG s a)then sub s (a+d) (en s a)else[])::(pN s d f (gZ s (en s a))).1))<=(en s a-a)+1+mj (pN s d f (gZ s (en s a))).1:=by
   unfold mj;simp only[cC,eX];split
   ·omega
   simp
  by_cases o:en s a<s.length
  ·simp only at b |-;omega
  ·have c:gZ s (en s a)=s.length:=by omega
   rw[c]at b |-
   rw[sU (by omega)]at b |-
   simp only[mj,eO,List.sum_nil]at b |-
   omega
 |case2 a e=>simp[mj]
theorem Qz(l:List Bs)(fo:Bool)(ch:Int):(Qr l fo ch).length<=2*mj l+2:=by
 have b:=ku l;have c:=rj l (yA l l.length);have a:=uK (l.take (yA l l.length)) [] 0 [];have d:=rh (l.take (yA l l.length));simp only[aL]at a;unfold Qr
 repeat' split
 all_goals(first|omega|(simp only[aC,bJ,aL,aK];omega)|(rename_i e;simp only[aC,bJ,aL,aK];split<;>omega))
theorem Ur{s:Bs}{p:Nat}{n:Int}(hp:p<s.length):(nQ s p n).1.length<=2*s.length+4:=by
 unfold nQ;split
 ·simp
 have c:∀(d f a:Nat),a<=s.length->(Qr (pN s d f a).1 (decide (bW s p=62)) (jJ s p).2.1).length<=2*s.length+4:=fun d f a e=>by have h:=V6 s d f a e;have i:=Qz (pN s d f a).1 (decide (bW s p=62)) (jJ s p).2.1;omega
 exact c _ _ _ (jZ s _)
class Sm(s:Bs):Prop where
 le:s.length<=1048576
def Ot(x:Option (Int×iB))(e:Ev):Option (Int×iB):=
 x.bind fun y=>if(kz e=true/\e.text.length<=16777216)/\e.kind≠9/\e.kind≠10/\(lp y.1 y.2 e.kind).1=true then some (lp y.1 y.2 e.kind).2 else none
def VA(l:List Ev)(d:Int)(o:iB):Option (Int×iB):=l.foldl Ot (some (d,o))
theorem zW:∀l:List Ev,l.foldl Ot none=none
 |[]=>rfl
 |e::r=>zW r
theorem KB:∀(l m:List Ev) (d:Int) (o:iB) (y:Int×iB),VA l d o=some y->oY (l++m) d o=oY m y.1 y.2
 |[],m,d,o,y,h=>by cases h;rfl
 |e::r,m,d,o,y,h=>by
  unfold VA at h;rw[eI]at h;by_cases b:(kz e=true/\e.text.length<=16777216)/\e.kind≠9/\e.kind≠10/\(lp d o e.kind).1=true
  ·have c:Ot (some (d,o)) e=some (lp d o e.kind).2:=by simp only[Ot,gR];rw[aB b]
   rw[c]at h;have:=KB r m _ _ y h;rw[eL];simp only[oY];rw[b.1.1,aA b.2.2.1,aA b.2.1,b.2.2.2,this];rfl
  have c:Ot (some (d,o)) e=none:=by simp only[Ot,gR];rw[aA b]
  rw[c,zW]at h;cases h
def Nd(l:List Ev)(d:Int)(o:iB):Prop:=∃m,l=ln::m/\VA m 0 []=some (d,o)
theorem Nd.tell{l:List Ev}{d:Int}{o:iB}{e:Ev}(h:Nd l d o)(he:kz e=true)(f:e.text.length<=16777216)(c:e.kind≠9)(a:e.kind≠10)(b:(lp d o e.kind).1=true):Nd (l++[e]) (lp d o e.kind).2.1 (lp d o e.kind).2.2:=by
 obtain⟨m,rfl,hm⟩:=h;refine⟨m++[e],rfl, ?_⟩;unfold VA at hm |-
 rw[List.foldl_append,hm];simp only[eI,List.foldl_nil,Ot,gR];rw[aB ⟨⟨he,f⟩,c,a,b⟩]
theorem Nd.fin{l:List Ev}{d:Int}{o:iB}{e:Ev}(h:Nd l d o)(he:kz e=true)(a:e.kind=10\/e.kind=9/\d=0):eQ (l++[e])=true:=by
 obtain⟨m,rfl,hm⟩:=h;rw[eL];simp only[eQ];rw[KB m [e] 0 [] _ hm];simp only[oY,List.isEmpty_nil,he,di,Bool.and_true];rw[show kz ln=true by decide,show decide (ln.kind=1)=true by decide];rcases a with a|⟨a,rfl⟩
 ·rw[aB a];rfl
 rw[aA (by omega),aB a];rfl
def nN(d:Int)(o:iB):Int:=if o=[]then 2 else d
def oN(o:iB):iB:=if o=[]then[]else nZ o
def lu(d:Int)(o:iB):Prop:=o=[]->d=1
theorem v8{d:Int}{o:iB}(h:lu d o):mV d o=(true,nN d o,oN o):=by
 unfold mV nN oN;by_cases a:o=[]
 ·rw[aB a,aB a,aB a,h a];rfl
 rw[aA a,aA a,aA a]
theorem sE{l m:List Ev}:∀{i:Nat},i<=l.length->ic (l++m) i=ic l i
 |0,_=>rfl
 |i+1,h=>by simp only[ic];rw[iG (by omega),sE (by omega)]
theorem vZ{l m:List Ev}{t:Bs}:∀{i:Nat},i<=l.length->jL (l++m) t i=jL l t i
 |0,_=>rfl
 |i+1,h=>by simp only[jL];rw[iG (by omega),vZ (by omega)]
def MO(l:List Ev)(i:Nat):Prop:=∃k:Nat,jL l (l.getD i ec).text i=k/\k<i/\k ∉ ic l i
def Qp(l:List Ev):Prop:=∀i,i<l.length->(l.getD i ec).kind=6->MO l i
theorem Qp.MW{l:List Ev}{e:Ev}(h:Qp l)(he:e.kind=6->MO (l++[e]) l.length):Qp (l++[e]):=by
 intro i n c;rcases aU i l.length with b|b
 ·rw[iG b]at c;obtain⟨k,g,j,m⟩:=h i b c;refine⟨k, ?_,j, ?_⟩
  ·rw[vZ (by omega),iG b];exact g
  rw[sE (by omega)];exact m
 obtain rfl:i=l.length:=by simp at n;omega
 rw[gn]at c;exact he c
structure At(r:Rd)(d:Int)(o:iB)(S:List Nat):Prop where
 nd:Nd r.ev d o
 st:ic r.ev r.ev.length=S
 dn:r.dn.length=r.ev.length
 dt:∀k,k<r.ev.length->r.dn.getD k false=true->k ∉ S
 ti:Qp r.ev
 dc:∀j,r.bs<j->j<r.ev.length->(r.ev.getD j ec).kind≠2
 hd:∀h∈r.hd,h.pre.length<=60
structure VF(s:Bs)(r:Rd):Prop where
 nd:∃d o,Nd r.ev d o
 ti:Qp r.ev
 c1:1<=r.cd
 c2:r.cd<=99
 pl:r.pl<=s.length
def l6(s:Bs)(r:Rd)(d:Int)(o:iB)(S:List Nat):Prop:=(r.cd=0->At r d o S)/\(r.cd≠0->VF s r)
theorem At.cast{r r':Rd}{d:Int}{o:iB}{S:List Nat}(h:At r d o S)(a:r'.ev=r.ev)(b:r'.dn=r.dn)(g:r'.bs=r.bs)(i:r'.hd=r.hd):At r' d o S:=by
 obtain⟨c,a2,a3,a4,a5,e,f⟩:=h;refine⟨?_, ?_, ?_, ?_, ?_, ?_, ?_⟩
 ·rw[a];exact c
 ·rw[a];exact a2
 ·rw[a,b];exact a3
 ·rw[a,b];exact a4
 ·rw[a];exact a5
 ·rw[a,g];exact e
 rw[i];exact f
theorem At.at{r:Rd}{q:Nat}{d:Int}{o:iB}{S:List Nat}(h:At r d o S):At (atR r q) d o S:=h.cast rfl rfl rfl rfl
theorem At.bad{s:Bs}{r r':Rd}{d:Int}{o:iB}{S:List Nat}(h:At r d o S)(a:r'.ev=r.ev)(b:1<=r'.cd/\r'.cd<=99)(hp:r'.pl<=s.length):VF s r':=⟨⟨d,o,by rw[a];exact h.nd⟩,by rw[a];exact h.ti,b.1,b.2,hp⟩
theorem At.er{s:Bs}{r:Rd}{d:Int}{o:iB}{S:List Nat}{c:Int}{p:Nat}(h:At r d o S)(a:1<=c/\c<=99)(hp:p<=s.length):VF s (er r c p):=h.bad rfl a hp
theorem At.lc{s:Bs}{r:Rd}{d b:Int}{o o':iB}{S a:List Nat}{c:Int}{p:Nat}(h:At r d o S)(f:1<=c/\c<=99)(hp:p<=s.length):l6 s (Pl.er r c p) b o' a:=⟨fun e=>by simp only[Pl.er]at e;omega,fun _=>h.er f hp⟩
theorem At.Bt{s:Bs}{r:Rd}{d:Int}{o:iB}{S:List Nat}(h:At r d o S)(a:r.cd=0):l6 s r d o S:=⟨fun _=>h,fun b=>absurd a b⟩
theorem l6.bad{s:Bs}{r:Rd}{d f:Int}{o o':iB}{S e:List Nat}(h:l6 s r d o S)(g:r.cd≠0):l6 s r f o' e:=⟨fun i=>absurd i g,h.2⟩
theorem At.tell{r r':Rd}{d:Int}{o:iB}{S:List Nat}{e:Ev}(h:At r d o S)(b:r'.ev=r.ev++[e])(f:r'.dn=r.dn++[true])(p:r'.bs=r.bs)(q:r'.hd=r.hd)(he:kz e=true)(g:e.text.length<=16777216)(a:e.kind≠9/\e.kind≠10/\e.kind≠7/\fS e.kind=false)(t:(lp d o e.kind).1=true)(s:e.kind=6->MO (r.ev++[e]) r.ev.length)(hd:e.kind=2->r.bs=r.ev.length):At r' (lp d o e.kind).2.1 (lp d o e.kind).2.2 S:=by
 obtain⟨l,a2,a3,a4,a5,m,n⟩:=h;refine⟨?_, ?_, ?_, ?_, ?_, ?_, ?_⟩
 ·rw[b];exact l.tell he g a.1 a.2.1 t
 ·rw[b,aC];simp only[aK,aL,aX];rw[lf (by rw[gn,a.2.2.2];simp) (by rw[gn];exact a.2.2.1),sE (aN _)];exact a2
 ·rw[b,f,aC,aC,a3];rfl
 ·intro k c g hm;rw[b,aC]at c;simp only[aK,aL,aX]at c;rcases aU k r.ev.length with a|a
  ·rw[f,iG (by omega)]at g;exact a4 k a g hm
  rw[<-a2]at hm;have:=qj hm;omega
 ·rw[b];exact a5.MW s
 ·intro j i c;rw[b,aC]at c;simp only[aK,aL,aX]at c;rw[p]at i;rw[b];rcases aU j r.ev.length with a|a
  ·rw[iG a];exact m j i a
  obtain rfl:j=r.ev.length:=by omega
  rw[gn];intro f;have:=hd f;omega
 rw[q];exact n
theorem Ou:∀(l:List Ev) (d:Int) (o:iB) (y:Int×iB),VA l d o=some y->∀e∈l,kz e=true/\e.text.length<=16777216
 |[],_,_,_,_=>fun e he=>by cases he
 |a::r,d,o,y,h=>by
  unfold VA at h;rw[eI]at h;by_cases c:(kz a=true/\a.text.length<=16777216)/\a.kind≠9/\a.kind≠10/\(lp d o a.kind).1=true
  ·have b:Ot (some (d,o)) a=some (lp d o a.kind).2:=by simp only[Ot,gR];rw[aB c]
   rw[b]at h;intro e he;rcases eA.1 he with rfl|he
   ·exact c.1
   exact Ou r _ _ y h e he
  have b:Ot (some (d,o)) a=none:=by simp only[Ot,gR];rw[aA c]
  rw[b,zW]at h;cases h
theorem Nd.W2{l:List Ev}{d:Int}{o:iB}(h:Nd l d o){i:Nat}(b:i<l.length):kz (l.getD i ec)=true/\(l.getD i ec).text.length<=16777216:=by
 obtain⟨m,rfl,hm⟩:=h;have c:(ln::m).getD i ec∈ln::m:=by rw[aG,aS b];exact gf b
 rcases eA.1 c with a|a
 ·rw[a];decide
 exact Ou m _ _ _ hm _ a
theorem Nd.ok{l:List Ev}{d:Int}{o:iB}(h:Nd l d o){i:Nat}(a:i<l.length):kz (l.getD i ec)=true:=(h.W2 a).1
theorem MV{l:List Ev}{d:List Bool}{b:Nat}{name:Bs}(y:∀i,i<l.length->kz (l.getD i ec)=true)(w:∀j,b<j->j<l.length->(l.getD j ec).kind≠2)(h:Qq l d b name=true):∃k:Nat,jL l name l.length=k/\k<l.length/\d.getD k false=true:=by
 unfold Qq iu si at h;rw[List.foldl_map]at h;have key:∀n,n<=l.length->((List.range n).filter fun i=>decide (b<=i)&&!decide ((l.getD i ec).anchor=[])).foldl (fun x i=>if(l.getD i ec).anchor=name then d.getD i false else x) false=true->∃k:Nat,jL l name n=k/\k<n/\d.getD k false=true:=by
  intro n
  induction n with
  |zero=>intro _ h;simp at h
  |succ n t=>
   intro z c;rw[List.range_succ,List.filter_append,List.foldl_append]at c;by_cases hp:(decide (b<=n)&&!decide ((l.getD n ec).anchor=[]))=true
   ·rw[List.filter_cons_of_pos (p:=fun i=>decide (b<=i)&&!decide ((l.getD i ec).anchor=[])) hp,List.filter_nil,eI,List.foldl_nil]at c;simp only[aD,aE,aR,aO]at hp;have f:=qW (y n (by omega)) hp.2;have o:(l.getD n ec).kind≠2:=by intro o;have:=f.1;rw[o]at this;revert this;decide
    simp only[jL];rw[aA o];by_cases he:(l.getD n ec).anchor=name
    ·rw[aB he]at c;rw[aB ⟨f.2,hp.2,he⟩];exact⟨n,rfl,by omega,c⟩
    rw[aA he]at c;rw[aA fun h=>he h.2.2];obtain⟨k,q,v,r⟩:=t (by omega) c;exact⟨k,q,by omega,r⟩
   rw[List.filter_cons_of_neg (p:=fun i=>decide (b<=i)&&!decide ((l.getD i ec).anchor=[])) hp,List.filter_nil,List.foldl_nil]at c;obtain⟨k,q,v,r⟩:=t (by omega) c;have g:b<n:=by
    rcases aU b n with g|g
    ·exact g
    rw[List.filter_eq_nil_iff.2 (by intro a f;have:=List.mem_range.1 f;simp;intro h;omega)]at c;simp at c
   have hd:(l.getD n ec).anchor=[]:=by
    by_cases hd:(l.getD n ec).anchor=[]
    ·exact hd
    exact absurd (by rw[aJ (show b<=n by omega),aI hd];rfl) hp
   refine⟨k, ?_,by omega,r⟩;simp only[jL];rw[aA (w n g (by omega)),aA fun h=>h.2.1 hd];exact q
 exact key l.length (aN _) h
def ll(p:Pp):Prop:=zC p.an=true/\p.tg.length<=120
theorem Ub{st:Int}{t a g:Bs}(b:1<=st/\st<=5)(c:zC a=true)(d:g.length<=120):kz (EZ st t a g)=true:=by simp[kz,EZ,c,b.1,b.2,d]
theorem T7{t:Bs}(b:t≠[])(a:zC t=true):kz (FL t)=true:=by simp[kz,FL,b,a,F1]
theorem Ua{k st:Int}{a g:Bs}(e:k=3\/k=4)(b:6<=st/\st<=7)(c:zC a=true)(d:g.length<=120):kz (oQ k st a g)=true:=by rcases e with rfl|rfl<;>simp[kz,oQ,c,b.1,b.2,d]
theorem At.text{r r':Rd}{d:Int}{o:iB}{S:List Nat}{st:Int}{t:Bs}{p:Pp}(h:At r d o S)(j:t.length<=16777216)(hp:ll p)(i:1<=st/\st<=5)(g:lu d o)(a:r'.ev=r.ev++[EZ st t p.an p.tg])(b:r'.dn=r.dn++[true])(c:r'.bs=r.bs)(f:r'.hd=r.hd):At r' (nN d o) (oN o) S:=by
 have e:lp d o (EZ st t p.an p.tg).kind=(true,nN d o,oN o):=by rw[<-v8 g];rfl
 have:=h.tell a b c f (Ub i hp.1 hp.2) j ⟨by simp[EZ],by simp[EZ],by simp[EZ],by simp[EZ,fS]⟩ (by rw[e]) (by simp[EZ]) (by simp[EZ]);rw[e]at this;exact this
theorem At.uC{r r':Rd}{d:Int}{o:iB}{S:List Nat}{t:Bs}(h:At r d o S)(u:t≠[])(hm:zC t=true)(s:lu d o)(p:Qq r.ev r.dn r.bs t=true)(f:r'.ev=r.ev++[FL t])(g:r'.dn=r.dn++[true])(j:r'.bs=r.bs)(l:r'.hd=r.hd):At r' (nN d o) (oN o) S:=by
 have e:lp d o (FL t).kind=(true,nN d o,oN o):=by rw[<-v8 s];rfl
 have:=h.tell f g j l (T7 u hm) (by have v:t.length<=60:=(aW hm).1;simp only[FL];omega) ⟨by simp[FL],by simp[FL],by simp[FL],by simp[FL,fS]⟩ (by rw[e]) (fun _=>?_) (by simp[FL])
 ·rw[e]at this;exact this
 obtain⟨k,m,c,n⟩:=MV (fun i q=>h.nd.ok q) h.dc p;refine⟨k, ?_,c, ?_⟩
 ·rw[gn,vZ (aN _)];exact m
 rw[sE (aN _),h.st];exact h.dt k c n
theorem At.op{r r':Rd}{d:Int}{o:iB}{S:List Nat}{k st:Int}{p:Pp}(h:At r d o S)(hp:ll p)(a:k=3\/k=4)(x:6<=st/\st<=7)(w:lu d o)(b:r'.ev=r.ev++[oQ k st p.an p.tg])(i:r'.dn=r.dn++[false])(s:r'.bs=r.bs)(t:r'.hd=r.hd):At r' (nN d o) (oN o++[(decide (k=4),0)]) (S++[r.ev.length]):=by
 obtain⟨m,a2,a3,a4,a5,n,q⟩:=h;have v:fS (oQ k st p.an p.tg).kind=true:=by rcases a with rfl|rfl<;>simp[oQ,fS]
 have e:lp d o (oQ k st p.an p.tg).kind=(true,nN d o,oN o++[(decide (k=4),0)]):=by
  have:lp d o k=((mV d o).1,(mV d o).2.1,(mV d o).2.2++[(decide (k=4),0)]):=by rcases a with rfl|rfl<;>simp[lp]
  rw[v8 w]at this;exact this
 have u:ic (r.ev++[oQ k st p.an p.tg]) (r.ev.length+1)=S++[r.ev.length]:=by rw[jN (by rw[gn];exact v),sE (aN _),a2]
 refine⟨?_, ?_, ?_, ?_, ?_, ?_, ?_⟩
 ·have:=m.tell (Ua a x hp.1 hp.2) (by simp[oQ]) (by rcases a with rfl|rfl<;>simp[oQ]) (by rcases a with rfl|rfl<;>simp[oQ]) (by rw[e]);rw[e]at this;rw[b];exact this
 ·rw[b,aC];exact u
 ·rw[b,i,aC,aC,a3];rfl
 ·intro j f g hm;rw[b,aC]at f;simp only[aK,aL,aX]at f;rcases aU j r.ev.length with a|a
  ·rw[i,iG (by omega)]at g;rcases dh.1 hm with hm|hm
   ·exact a4 j a g hm
   simp at hm;omega
  obtain rfl:j=r.ev.length:=by omega
  rw[i,<-a3,gn]at g;cases g
 ·rw[b];exact a5.MW (by rcases a with rfl|rfl<;>simp[oQ])
 ·intro j l f;rw[b,aC]at f;simp only[aK,aL,aX]at f;rw[s]at l;rw[b];rcases aU j r.ev.length with c|c
  ·rw[iG c];exact n j l c
  obtain rfl:j=r.ev.length:=by omega
  rw[gn];rcases a with rfl|rfl<;>simp[oQ]
 rw[t];exact q
theorem At.sh{r:Rd}{d:Int}{o:iB}{S:List Nat}{k:Nat}(h:At r d o (S++[k]))(he:rk o=true):At (mH r k) d (pop o) S:=by
 obtain⟨q,a2,a3,a4,a5,s,t⟩:=h;have g:k ∉ S:=by intro hm;obtain⟨p,hp,e⟩:=List.getElem_of_mem hm;have a:=pu (l:=r.ev) r.ev.length p S.length hp (by rw[a2];simp);rw[a2]at a;rw[iG hp,gn]at a;rw[aG,aS hp,e]at a;simp at a
 have e:lp d o Qs.kind=(true,d,pop o):=by simp[lp,Qs,he]
 refine⟨?_, ?_, ?_, ?_, ?_, ?_, ?_⟩
 ·have:=q.tell (e:=Qs) (by decide) (by decide) (by decide) (by decide) (by rw[e]);rw[e]at this;exact this
 ·simp only[mH,aC,aK,aL,aX];rw[mx (by rw[gn];rfl),sE (aN _),a2];simp
 ·simp[mH,a3]
 ·intro j i n hm;simp only[mH,aC,aK,aL,aX]at i n;have c:j∈S++[k]:=List.mem_append_left _ hm;have f:j<r.ev.length:=by rw[<-a2]at c;exact qj c
  have m:k≠j:=fun h=>g (h▸hm);rw[aG,List.getElem?_set_ne m,<-aG,iG (by omega)]at n;exact a4 j f n c
 ·exact a5.MW (by simp[Qs])
 ·intro j c i;simp only[mH,aC,aK,aL,aX]at i c |-
  rcases aU j r.ev.length with b|b
  ·rw[iG b];exact s j c b
  obtain rfl:j=r.ev.length:=by omega
  rw[gn];decide
 exact t
end Go.Pl
end
