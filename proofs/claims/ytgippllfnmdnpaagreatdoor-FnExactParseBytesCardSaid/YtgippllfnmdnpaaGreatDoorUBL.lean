/- Own text: part UBL. -/
import Derived.Test.YtgippllfnmdnpaaGreatDoorUBK
import Derived.Test.YtgippllfnmdnpaaGreatDoorUBC
import Derived.Test.YtgippllfnmdnpaaGreatDoorUAR
import Derived.Test.YtgippllfnmdnpaaGreatDoorUAS
set_option linter.all false
section
namespace Go.T
variable [Go.Vg.Glob] [Go.Vg.GlobTabs 0 1]
open Go.Proofs Go.Vg Go.RowKit Go.TT Go.Pl
set_option maxRecDepth 10000
set_option maxHeartbeats 4000000
theorem snodeB (s:Bs) (x:Rb) (pr:Int) (sb:Int→Bool→Bool→Rb→Rb) (n:Int) (inl lo:Bool) (HM:∀ (oh:Bool) (oa og:Bs) (oe:Nat) (ha:Bool) (an tg:Bs) (fm pe:Nat) (x1:Rb) (pr1:Int),Ok s x1.r→x1.r.dp=x.r.dp→(kyA s x1.r.pos).2.2=true→fm≤s.length→(ha=false→x1.r.pos=fm)→NodeU Tryz.prog 259 s [.agg [.i .i64 0,.i .i64 0,.b false,.s [],.s oa,.s og,.i .i64 0,.i .i64 0],.agg [.i .i64 0,.i .i64 0,.b false,.s [],.s an,.s tg,.i .i64 0,.i .i64 0],.b ha,.i .i64 (fm:Nat)] pr1 x1.r (mpK s sb (⟨oh,oa,og,oe⟩:Pp) (⟨ha,an,tg,pe⟩:Pp) fm x1)) (HL:∀ (oh:Bool) (oa og:Bs) (oe:Nat) (x1:Rb) (pr1:Int),Ok s x1.r→x1.r.dp=x.r.dp→x1.r.pos<s.length→NodeU Tryz.prog 261 s [.agg [.i .i64 0,.i .i64 0,.b false,.s [],.s oa,.s og,.i .i64 0,.i .i64 0]] pr1 x1.r (lsK s sb (⟨oh,oa,og,oe⟩:Pp) x1)) (R:Rb) (hR:R=bnR s sb n inl lo x) (hp:s.length≤60000∧Ok s x.r ∧ -1≤n∧n≤60000):FnK Tryz.prog 226 1 [.ptr 0 0 0,.i .i64 n,.b inl,.b lo] (spC s (x.r) ((x.r).pos:Nat) pr) (fun z c=>∃ (a pr':Int) (lo:Bool),((R).r.cd=0→a=(((R).r.pos:Nat):Int)∧lo=(R).fr)∧z=.b lo∧c=(spC s ((R).r) a pr')):=by
 refine HQx (ku.c (zal.c zak.d)) 137 [[0,1,2,3],[0,1,2,3,9],[0,1,2,3,9,10],[0,1,2,3,9,10,11,12],[0,1,2,3,9,10,11,12,33],[8],[0,1,2,3,9,10,11,12,13],[0,1,2,3,9,10,11,12,13,14,15],[0,1,2,3,9,10,11,12,13,14,49],[0,1,3,9,11,14],[0,1,3,9,11,14,57],[8],[0,1,9,11,14,62],[0,14],[],[8],[0,1,9,11],[0,1,9,11,13],[0,1,2,9,11,13],[0,1,2,9,10,11,13],[0,1,2,9,10,11,12,13],[0,1,2,9,10,11,12,13,84],[8],[0,1,2,9,10,11,12,13,18],[0,1,2,9,10,11,12,13,102],[],[8],[0,1,9,10,11,12,13,125],[],[8],[8]] Tryz.func226 [.tmp 8] (fun _=>false) [23] [(7,[],[],qa (.q0 3 [3] (.q0 7 [7] (.alt 8 (qh .fin) .fin)))),(23,[],[],qa (.q0 3 [3] (.q0 7 [7] (.alt 8 (qg .fin) .fin)))),(27,[],[],qe (.q1 4 (.q1 5 (.q1 6 (.q1 7 (qd (.q1 11 (.q1 12 (.q1 13 (.q0 10 [10] (.q0 14 [14] (.alt 15 (.q1 16 .fin) .fin))))))))))))] ?_;simp only [↓XC,X1,seval,X2,wq,jq,kz,↓Ya,Yb,↓Yc,onB,zp];obtain ⟨h6,ho,hn1,hn2⟩:=hp;have hs:s.length≤1048576:=by omega
 have hpos:=ho.pos;have hcd:=ho.cd;have hsz:=ho.size hs;refine Vq (zo3 s x.r pr false ⟨hs,hcd,hpos,ho.hd,ho.pf⟩) ?_;rintro z c ⟨pr1,an,tg,ha,hq,rfl,rfl⟩;simp only [↓XC,X1,seval,X2,wq,↓Ya,Yb,↓Yc,onB,zp,XM];obtain ⟨q,hqd⟩:∃ q,q=prR s false x.r:=⟨_,rfl⟩
 have hqZ:prZ s false x.r=q:=by rw [hqd];rfl
 rw [hqZ] at hq ⊢;refine ⟨fun h=>?_,fun h=>?_⟩
 ·have hqz:¬q.cd=0:=by simpa using h
  have eR:R=onB x q:=by rw [hR];unfold bnR;rw [←hqd,if_pos hqz]
  rw [eR];refine ⟨.b true,(spC s ((onB x q).r) ((q.pos:Nat):Int) pr1),⟨((q.pos:Nat):Int),pr1,true,fun h=>absurd h hqz,rfl,rfl⟩, ?_⟩;exact Vf
 have hqz:q.cd=0:=by simpa using h
 obtain ⟨epr,ean,etg,eha⟩:=hq hqz;subst ean etg eha;obtain ⟨pp,hpp⟩:∃ pp,pp=prP s false x.r:=⟨_,rfl⟩
 rw [←hpp] at epr ⊢;obtain ⟨qp,e9,l9,l10,_,l12⟩:=xn (fl:=false) hpos hcd (show (prR s false x.r).cd=0 by rw [←hqd];exact hqz);have hqo:Ok s q:=by rw [hqd,e9];exact ho.at l9 l10
 have hqdp:q.dp=x.r.dp:=by rw [hqd,e9];rfl
 have hpe:pp.has=true→pp.en≤s.length:=fun h=>by rw [hpp] at h ⊢;exact (zh2 hpos l12 h).2.1
 have hno:pp.has=false→q.pos=x.r.pos:=fun h=>by rw [hqd,(prR_no hcd (by rw [←hqd];exact hqz) (by rw [←hpp];exact h)).1]
 have hat:pp.has=true→q.pos=wh s pp.en:=fun h=>by rw [hqd,hpp];exact prR_at hcd (by rw [←hqd];exact hqz) (by rw [←hpp];exact h)
 have hspot:pp.has=true→spot s pr1=pp.en:=fun h=>by rw [epr,if_pos h];exact zg s (hpe h)
 refine ⟨by decide +kernel,Chk.mk hs fun _=>?_⟩;refine zav.of (ι:={u:(Bool×Pp×Pp)×Nat×Rd×Int // R=bnE s sb n u.1.1 u.1.2.1 u.1.2.2 u.2.1 (onB x u.2.2.1)∧Ok s u.2.2.1∧u.2.2.1.dp=x.r.dp∧u.2.1≤s.length∧(u.1.2.2.has=false→u.2.2.1.pos=u.2.1)∧(u.1.2.1.has=true→u.1.2.2.has=true→u.2.2.2=((u.1.2.2.en:Nat):Int)∧u.2.2.1.pos=wh s u.1.2.2.en∧u.1.2.2.en≤s.length)}) (fun u=>⟨[(0,.ptr 0 0 0),(1,.i .i64 n),(2,.b u.1.1.1),(9,.ptr 4 0 0),(10,.i .i64 (u.1.2.1:Nat)),(11,.ptr 5 0 0),(12,.b u.1.1.2.2.has),(13,.b u.1.1.2.1.has)],[some (.blk false [.s s,.i .i64 ((u.1.2.2.1).pos:Nat),.slc 1 0 (u.1.2.2.1).ev.length,.i .i64 (u.1.2.2.1).cd,.i .i64 ((u.1.2.2.1).pl:Nat),.i .i64 ((u.1.2.2.1).dp:Nat),.slc 2 0 (nmS (u.1.2.2.1).ev (u.1.2.2.1).dn (u.1.2.2.1).bs).length,.slc 3 0 (u.1.2.2.1).hd.length,.i .i64 u.1.2.2.2]),some (.row false 8 (u.1.2.2.1).ev.length (zu evc evz (u.1.2.2.1).ev)),some (.row false 2 (nmS (u.1.2.2.1).ev (u.1.2.2.1).dn (u.1.2.2.1).bs).length (zu nac ([],false) (nmS (u.1.2.2.1).ev (u.1.2.2.1).dn (u.1.2.2.1).bs))),some (.row false 2 (u.1.2.2.1).hd.length (zu hdc hdz (u.1.2.2.1).hd)),some (.blk false [.i .i64 0,.i .i64 0,.b false,.s [],.s u.1.1.2.1.an,.s u.1.1.2.1.tg,.i .i64 0,.i .i64 0]),some (.blk false [.i .i64 0,.i .i64 0,.b false,.s [],.s u.1.1.2.2.an,.s u.1.1.2.2.tg,.i .i64 0,.i .i64 0])]⟩) ?_ ?_
 ·simp only [↓XC,X1,seval,X2,↓Ya,Yb,↓Yc,onB,zp];refine ⟨fun hb=>?_,fun hb=>?_⟩
  ·simp only [Bool.and_eq_true] at hb;obtain ⟨hb1,hb2⟩:=hb;rw [hspot hb1] at hb2 ⊢;have hen:=hpe hb1;have hgg:wh s pp.en≤gpE s pp.en:=by have:=q8 s (wh s pp.en);rw [zv1] at this;exact this
   have hL:=zr6 s q pr1 (rsA s pp.en).1 ⟨hs,hqz,(wx hen).2⟩;rw [zva hb2] at hL;obtain ⟨v,hv⟩:∃ v,v=ovR s q pp.en:=⟨_,rfl⟩
   rw [←hv] at hL;refine Vm (hL) ?_;simp only [↓XC,X1,seval,X2,↓Ya,Yb,↓Yc,onB,zp,XM];have hW:R=if v.cd≠0 then onB x v else if jl s v.pos=true∨dpA s v.pos n lo=false then ntB x v pp (rsA s pp.en).1 else if (prR s false v).cd≠0 then onB x (prR s false v) else bnE s sb n false pp (prP s false v) v.pos (onB x (prR s false v)):=by rw [hR];unfold bnR;rw [←hqd,←hpp,if_neg (by simpa using hqz),if_pos ⟨hb1,hb2⟩,←hv]
   refine ⟨fun h3=>?_,fun h3=>?_⟩
   ·have hvz:¬v.cd=0:=by simpa using h3
    have eR:R=onB x v:=by rw [hW,if_pos hvz]
    rw [eR];refine ⟨.b true,(spC s ((onB x v).r) ((v.pos:Nat):Int) pr1),⟨((v.pos:Nat):Int),pr1,true,fun h=>absurd h hvz,rfl,rfl⟩, ?_⟩;exact Vf
   have hvz:v.cd=0:=by simpa using h3
   rw [if_neg (by simpa using hvz)] at hW;have hve:v=atR q (gpE s pp.en):=by rw [hv];exact ug (by rw [←hv];exact hvz)
   have hvp:v.pos≤s.length:=by rw [hve];exact qr s _ hen
   have hvo:Ok s v:=by rw [hve];exact hqo.at (by rw [hat hb1];exact hgg) (qr s _ hen)
   have hvl:v.ev.length≤16777216:=Nat.le_trans (hvo.size hs) (by decide);have hvd:v.dp=x.r.dp:=by rw [hve];exact hqdp
   refine Vm (sdeep s v pr1 n lo ⟨hs,hvp⟩) ?_;simp only [↓XC,X1,seval,X2,↓Ya,Yb,↓Yc,onB,zp,XM];refine ⟨fun h4=>?_,fun h4=>?_⟩
   ·have hd2:jl s v.pos=true∨dpA s v.pos n lo=false:=by
     have hd:dpR s v.pos n lo=false:=by simpa using h4
     unfold dpR at hd;cases h5:jl s v.pos
     ·right;rw [h5] at hd;simpa using hd
     ·exact .inl rfl
    refine Vb (snone s v pr1 0 0 [] pp.an pp.tg ⟨hvl,hvo.dn,hvo.bs⟩) ?_;simp only [↓XC,X1,seval,X2,↓Ya,Yb,↓Yc,onB,zp,XM];have eR:R=ntB x v pp (rsA s pp.en).1:=by rw [hW,if_pos hd2]
    rw [eR];refine ⟨.b true,(spC s ((ntB x v pp (rsA s pp.en).1).r) (((rsA s pp.en).1:Nat):Int) pr1),⟨(((rsA s pp.en).1:Nat):Int),pr1,true,fun _=>⟨rfl,rfl⟩,rfl,rfl⟩, ?_⟩;try simp only [YC,ntB,ppz,ntR,yb,zf,atR,onB,List.length_append,List.length_cons,List.length_nil,Nat.zero_add]
    exact Vf
   have hd2:¬(jl s v.pos=true∨dpA s v.pos n lo=false):=by
    have hd:dpR s v.pos n lo=true:=by simpa using h4
    unfold dpR at hd;simp only [Bool.and_eq_true,Bool.not_eq_true'] at hd;rw [hd.1,hd.2];simp
   rw [if_neg hd2] at hW;refine Vq (zo3 s v pr1 false ⟨hs,hvz,hvp,hvo.hd,hvo.pf⟩) ?_;rintro z c ⟨pr2,an2,tg2,ha2,hq2,rfl,rfl⟩;simp only [↓XC,X1,seval,X2,↓Ya,Yb,↓Yc,onB,zp,XM];obtain ⟨q2,hq2d⟩:∃ q2,q2=prR s false v:=⟨_,rfl⟩
   rw [show prZ s false v=q2 by rw [hq2d];rfl] at hq2 ⊢;rw [←hq2d] at hW;refine ⟨fun h5=>?_,fun h5=>?_⟩
   ·have hq2z:¬q2.cd=0:=by simpa using h5
    have eR:R=onB x q2:=by rw [hW,if_pos hq2z]
    rw [eR];refine ⟨.b true,(spC s ((onB x q2).r) ((q2.pos:Nat):Int) pr2),⟨((q2.pos:Nat):Int),pr2,true,fun h=>absurd h hq2z,rfl,rfl⟩, ?_⟩;exact Vf
   have hq2z:q2.cd=0:=by simpa using h5
   rw [if_neg (by simpa using hq2z)] at hW;obtain ⟨epr2,ean2,etg2,eha2⟩:=hq2 hq2z;subst ean2 etg2 eha2;obtain ⟨qp2,f9,m9,m10,_,m12⟩:=xn (fl:=false) hvp hvz (show (prR s false v).cd=0 by rw [←hq2d];exact hq2z);refine ⟨⟨((false,pp,prP s false v),v.pos,q2,pr2),hW, ?_, ?_,hvp,fun h=>?_,fun _ h=>⟨?_, ?_, ?_⟩⟩,(Ent.ren1 [0,1,2,3,4,5] (by decide) (by simp only [Yd];exact ⟨zb (by simp [Yf,Yh,onB]),za fun _=>rfl,za fun _=>rfl,za fun _=>rfl,zb (by simp [Yf]),zb (by simp [Yf])⟩) (by simp [hb1,ze,Vg.look,SV.mapH,muL,XRE,XR,XRH,XRN,Yh]))⟩
   ·rw [hq2d,f9];exact hvo.at m9 m10
   ·rw [hq2d,f9];exact hvd
   ·show q2.pos=v.pos;rw [hq2d,(prR_no hvz (by rw [←hq2d];exact hq2z) h).1]
   ·rw [epr2];exact if_pos h
   ·show q2.pos=_;rw [hq2d];exact prR_at hvz (by rw [←hq2d];exact hq2z) h
   ·exact (zh2 hvp m12 h).2.1
  ·have hbn:¬(pp.has=true∧(rsA s pp.en).2=true):=by rintro ⟨k1,k2⟩;rw [hspot k1,k1,k2] at hb;cases hb
   have hW:R=bnE s sb n inl (ppz 0) pp x.r.pos (onB x q):=by rw [hR];unfold bnR;rw [←hqd,←hpp,if_neg (by simpa using hqz),if_neg hbn]
   exact ⟨⟨((inl,ppz 0,pp),x.r.pos,q,pr1),hW,hqo,hqdp,hpos,hno,fun h=>by cases h⟩,(Ent.ren1 [0,1,2,3,4,5] (by decide) (by simp only [Yd];exact ⟨zb (by simp [Yf,Yh,onB]),za fun _=>rfl,za fun _=>rfl,za fun _=>rfl,zb (by simp [Yf,ppz]),zb (by simp [Yf,ppz])⟩) (by simp [ppz,ze,Vg.look,SV.mapH,muL,XRE,XR,XRH,XRN,Yh]))⟩
 rintro ⟨⟨⟨inl',outer,own⟩,first,q',pr'⟩,hu⟩;simp only at hu;obtain ⟨hU,hqo',hqd',hfl,hno',hen'⟩:=hu;simp only [↓XC,X1,seval,X2,jq,kz,↓Ya,Yb,↓Yc,onB,zp];have hqp:=hqo'.pos;rw [zg s hqp];refine ⟨by decide +kernel,Chk.mk hs fun _=>⟨fun h1=>?_,fun h1=>⟨by decide +kernel,Chk.mk (fun h=>⟨⟨h,h⟩,hs,by omega,by omega⟩) fun _=>⟨fun h2=>?_,fun h2=>?_⟩⟩⟩⟩
 ·simp only [Bool.and_eq_true,Bool.not_eq_true'] at h1;have hN:=HM outer.has outer.an outer.tg outer.en own.has own.an own.tg first own.en (onB x q') pr' hqo' hqd' h1.2 hfl hno'
  have eN:mpK s sb (⟨outer.has,outer.an,outer.tg,outer.en⟩:Pp) (⟨own.has,own.an,own.tg,own.en⟩:Pp) first (onB x q')=R:=by rw [hU];unfold bnE;rw [if_pos ⟨h1.1,h1.2⟩]
  rw [eN] at hN;unfold NodeU spC at hN;refine Vq (hN) ?_;rintro z c ⟨a2,pr2,ha2,rfl,rfl⟩;simp only [↓XC,X1,seval,X2,↓Ya,Yb,↓Yc,onB,zp,XM];refine ⟨.b true,(spC s ((R).r) a2 pr2),⟨a2,pr2,true,fun h=>⟨(ha2 h).1,(ha2 h).2.symm⟩,rfl,rfl⟩, ?_⟩;exact Vf
 ·have h1n:¬(inl'=false∧(kyA s q'.pos).2.2=true):=fun h=>by rw [h.1,h.2] at h1;cases h1
  simp only [Bool.and_eq_true,Bool.not_eq_true'] at h2;have hql:q'.pos<s.length:=by have h9:=h2.2;unfold zgq at h9;simp only [Bool.and_eq_true,decide_eq_true_eq] at h9;exact zm h9.1 (by decide)
  have hN:=HL outer.has outer.an outer.tg outer.en (onB x q') pr' hqo' hqd' hql;have eN:lsK s sb (⟨outer.has,outer.an,outer.tg,outer.en⟩:Pp) (onB x q')=R:=by rw [hU];unfold bnE;rw [if_neg (show ¬(inl'=false∧(kyA s (onB x q').r.pos).2.2=true) from h1n),if_pos ⟨h2.1.1,h2.1.2,h2.2⟩]
  rw [eN] at hN;unfold NodeU spC at hN;refine Vq (hN) ?_;rintro z c ⟨a2,pr2,ha2,rfl,rfl⟩;simp only [↓XC,X1,seval,X2,↓Ya,Yb,↓Yc,onB,zp,XM];refine ⟨.b true,(spC s ((R).r) a2 pr2),⟨a2,pr2,true,fun h=>⟨(ha2 h).1,(ha2 h).2.symm⟩,rfl,rfl⟩, ?_⟩;exact Vf
 ·have h1n:¬(inl'=false∧(kyA s q'.pos).2.2=true):=fun h=>by rw [h.1,h.2] at h1;cases h1
  have h2n:¬(inl'=false∧own.has=false∧zgq s q'.pos=true):=fun h=>by rw [h.1,h.2.1,h.2.2] at h2;cases h2
  have hN:=splain s (onB x q') pr' n outer.has outer.an outer.tg outer.en own.has own.an own.tg first own.en R (by rw [hU];unfold bnE;rw [if_neg (show ¬(inl'=false∧(kyA s (onB x q').r.pos).2.2=true) from h1n),if_neg (show ¬(inl'=false∧own.has=false∧zgq s (onB x q').r.pos=true) from h2n)]) ⟨h6,hqo',hn1,hn2,hfl,hen'⟩
  refine Vq (hN) ?_;rintro z c ⟨a2,pr2,lo2,ha2,rfl,rfl⟩;simp only [↓XC,X1,seval,X2,↓Ya,Yb,↓Yc,onB,zp,XM];refine ⟨.b lo2,(spC s ((R).r) a2 pr2),⟨a2,pr2,lo2,ha2,rfl,rfl⟩, ?_⟩;exact Vf
theorem z1q (r:Int) (hp:0≤r∧r≤2097151):PF Tryz.prog 161 [.i .i64 r] (.b (z1d r.toNat)):=by
 refine HP pn 33 [[0],[2]] Tryz.func161 [.tmp 2] ?_;simp only [↓XC,X1,seval,TES,XR];obtain ⟨n,rfl⟩:∃ n:Nat,r=n:=⟨r.toNat,by omega⟩
 rw [Int.toNat_natCast];congr 1;rw [Bool.eq_iff_iff];unfold z1d;simp only [Bool.or_eq_true,Bool.and_eq_true,decide_eq_true_eq,Bool.not_eq_true',decide_eq_false_iff_not];omega
noncomputable def zgf:PE:=peR (fun (r:Int)=>[.i .i64 r]) (fun (r:Int)=>0≤r∧r≤2097151) (fun (r:Int)=>.b (z1d r.toNat))
theorem zbl {r:Int}:zgf [.i .i64 r]=some (0≤r∧r≤2097151,.b (z1d r.toNat)):=yg (by rintro a b h;simp_all []) r
theorem zh6:PE1 Tryz.prog 161 zgf:=yo (by rintro r hp;exact z1q r hp)
theorem RuneAt_s (s:Bs) (p:Int) (hp:s.length≤1048576):PF Tryz.prog 160 [.s s,.i .i64 p] (.tup [.i .i64 ((rnA (s.drop (spot s p))).1:Nat),.i .i64 ((rnA (s.drop (spot s p))).2:Nat)]):=by
 refine HPx (yl.c u6.d) 67 [[0,1],[0,1],[0,1,6],[0,1,6,22],[0,1,6],[0,1,6,7],[0,1,6,7,8],[0,1,6,7,8,36],[0,1,6,7,8],[0,1,6,7,8],[0,1,6,7,9],[0,1,6,7,64],[4,5],[4,5]] Tryz.func160 [.tmp 4,.tmp 5] (fun _=>false) [] [(5,[],[],qe (.q1 5 (.seq [4,6,7,8,9])))] ?_;simp only [↓XC,X1,seval,TES,yn,kn,XR];have h0:=yh s p;rw [←rnL_rnA];generalize spot s p=q at *;obtain ⟨t,ht⟩:∃ t,t=s.drop q:=⟨_,rfl⟩
 have htl:t.length=s.length-q:=by rw [ht,List.length_drop]
 rw [←ht];refine zl.of (ι:={k:Nat // 1≤k∧k≤5∧rnL t k=rnL t 1}) (fun x=>⟨[(0,.s s),(1,.i .i64 (q:Nat)),(6,.i .i64 (x.1:Nat))],[]⟩) (fun x=>5-x.1) ⟨1,by decide,by decide,rfl⟩ (Ent.refl _ _) ?_;rintro ⟨k,hk1,hk5,hkL⟩;simp only [↓XC,X1,seval,TES,XR];have hgt:∀ j,t.getD j 0=s.getD (q+j) 0:=fun j=>by rw [ht];simp [List.getD_eq_getElem?_getD,List.getElem?_drop]
 have hE:k≤4→(q7 [.i .i64 0,.i .i64 0,.i .i64 192,.i .i64 224,.i .i64 240] 1 k).getD 0 .u=.i .i64 (rnO k):=by
  intro h;obtain rfl | rfl | rfl | rfl:k=1∨k=2∨k=3∨k=4:=by omega
  all_goals rfl
 have hO:0≤rnO k∧rnO k≤240:=by unfold rnO;(repeat' split)<;>decide
 refine Chk.mk (fun _=>by simp only [inR];omega) fun _=>⟨fun h=>?_,fun h=>?_⟩
 ·have h4:k≤4∧k≤t.length:=by simp only [Bool.and_eq_true,decide_eq_true_eq] at h;omega
  have hb0:=(s.getD q 0).toNat_lt;refine ⟨by decide +kernel,Chk.mk ⟨by omega,by omega⟩ fun _=>CR fun _=>Chk.mk ⟨by omega,by omega⟩ fun _=>CO fun _=>?_⟩;rw [hE h4.1];simp only [↓XC,X1,seval,TES,XR];refine CR fun _=>?_;rw [show (((s.getD q 0).toNat:Nat):Int)-rnO k=rnI t k (1-1) by show _=bN t 0-rnO k;unfold bN;rw [hgt,Nat.add_zero]];refine zl.of (ι:={i:Nat // 1≤i∧i≤k}) (fun x=>⟨[(0,.s s),(1,.i .i64 (q:Nat)),(6,.i .i64 (k:Nat)),(7,.i .i64 (rnI t k (x.1-1))),(8,.i .i64 (x.1:Nat))],[]⟩) (fun x=>k-x.1) ⟨1,Nat.le_refl _,hk1⟩ (Ent.ren1 [] (by decide) (by simp only [kf]) (by simp [ze,Vg.look,SV.mapH,muL])) ?_;rintro ⟨i,hi1,hi2⟩;simp only [↓XC,X1,seval,TES,kn,XR];have hbd:=rnI_bd t k (i-1) (by omega);have hbk:=rnI_bd t k (k-1) (by omega);refine ⟨fun hl=>?_,fun hl=>?_⟩
  ·have e1:((q:Int)+i).toNat=q+i:=by omega
   have hb:=(s.getD (q+i) 0).toNat_lt;rw [e1];have e2:rnI t k (i-1) * 64+(((s.getD (q+i) 0).toNat:Nat):Int)-128=rnI t k (i+1-1):=by
    obtain ⟨m,rfl⟩:∃ m,i=m+1:=⟨i-1,by omega⟩
    simp only [Nat.add_sub_cancel,rnI,bN,hgt]
   refine CR fun _=>CR fun _=>CO fun _=>CR fun _=>CR fun _=>CR fun _=>CR fun _=>?_;rw [e2];exact ⟨⟨i+1,by omega,by omega⟩,by simp only;omega,(by first | exact Ent.refl _ _ | (simp only [Int.natCast_add,Int.natCast_one];exact Ent.refl _ _))⟩
  ·obtain rfl:i=k:=by omega
   have e1:((q:Int)+i).toNat=q+i:=by omega
   have e3:List.drop q (List.take (q+i) s)=t.take i:=by rw [ht,List.take_drop,Nat.add_comm]
   have hlen:(t.take i).length=i:=by rw [List.length_take];omega
   rw [e1,e3];have eW:rnI t i (i-1)=rnW t i:=rfl;refine Chk.mk (fun _=>by simp only [inR];omega) fun _=>Chk.mk (fun _=>⟨by omega,by omega,by omega⟩) fun _=>⟨fun h9=>?_,fun h9=>CR fun _=>?_⟩
   ·simp only [Bool.and_eq_true,decide_eq_true_eq] at h9;have hn:¬(rnW t i<0∨1114111<rnW t i∨(55296≤rnW t i∧rnW t i≤57343)):=fun h8=>by have:=(rnB_nil _).2 h8;rw [eW,this] at h9;have:=h9.1;simp at this;omega
    rw [←hkL,zzq h4 h9.2,eW];simp only;rw [Int.toNat_of_nonneg (by omega)]
   ·have hne:¬rnB (rnW t i)=t.take i:=fun h8=>by rw [eW,h8,hlen] at h9;simp at h9
    exact ⟨⟨i+1,by omega,by omega,by rw [←hkL];exact (zzr h4 hne).symm⟩,by simp only;omega,(by first | exact Ent.refl _ _ | (simp only [Int.natCast_add,Int.natCast_one];exact Ent.refl _ _))⟩
 ·have hf:¬(k≤4∧k≤t.length):=by intro h9;rw [decide_eq_true (show (k:Int)≤4 by omega),decide_eq_true (show (k:Int)≤(s.length:Nat)-q by omega)] at h;cases h
  rw [←hkL,zw8 hf];rfl
noncomputable def zif:=qsi (fun s p=>s.length≤1048576) fun s p=>.tup [.i .i64 ((rnA (s.drop (spot s p))).1:Nat),.i .i64 ((rnA (s.drop (spot s p))).2:Nat)]
theorem zcs {s} {p}:zif [.s s,.i .i64 p]=some (s.length≤1048576,.tup [.i .i64 ((rnA (s.drop (spot s p))).1:Nat),.i .i64 ((rnA (s.drop (spot s p))).2:Nat)]):=y7
theorem zkc:PE1 Tryz.prog 160 zif:=y6 RuneAt_s
theorem Clean_s (s:Bs) (hp:s.length≤1048576):PF Tryz.prog 82 [.s s] (.i .i64 (clA s 0:Nat)):=by
 refine HP (zkc.c zh6.d) 28 [[0],[0,3],[0,3,9],[0,3,4,5],[0,3,5,22],[2],[0,3],[2]] Tryz.func82 [.tmp 2] ?_;simp only [↓XC,X1,seval,TES,zcs,zbl,XR];refine zl.of (ι:={p:Nat // p≤s.length∧clA s p=clA s 0}) (fun x=>⟨[(0,.s s),(3,.i .i64 (x.1:Nat))],[]⟩) (fun x=>s.length-x.1) ⟨0,Nat.zero_le _,rfl⟩ (Ent.refl _ _) ?_;rintro ⟨p,hp0,hpe⟩;simp only [↓XC,X1,seval,TES,zcs,zbl,XR];have hb:=zzx (s.drop p);rw [List.length_drop] at hb;rw [zg s hp0];refine ⟨fun hl=>Chk.mk hp fun _=>Chk.mk (fun h=>⟨h,by omega,by omega⟩) fun _=>⟨fun h=>?_,fun h=>CR fun _=>?_⟩,fun hl=>?_⟩
 ·have e:clA s p=p:=by rw [clA,dif_neg];rintro ⟨_,h2,h3,_⟩;rw [h3] at h;simp at h;exact h2 h
  rw [←hpe,e]
 ·simp only [Bool.or_eq_false_iff,decide_eq_false_iff_not,Bool.not_eq_false'] at h;have h1:(rnA (s.drop p)).2≠0:=by omega
  exact ⟨⟨p+(rnA (s.drop p)).2,by omega,by rw [←hpe,clA.eq_1 s p,dif_pos ⟨by omega,h1,h.2,by omega⟩]⟩,by simp only;omega,(by first | exact Ent.refl _ _ | (simp only [Int.natCast_add,Int.natCast_one];exact Ent.refl _ _))⟩
 ·have e:clA s p=p:=by rw [clA,dif_neg (by omega)]
  rw [←hpe,e]
noncomputable def zl0:PE:=peR (fun (s:Bs)=>[.s s]) (fun (s:Bs)=>s.length≤1048576) (fun (s:Bs)=>.i .i64 (clA s 0:Nat))
theorem xv {s:Bs}:zl0 [.s s]=some (s.length≤1048576,.i .i64 (clA s 0:Nat)):=yg (by rintro a b h;simp_all []) s
theorem zeh:PE1 Tryz.prog 82 zl0:=yo (by rintro s hp;exact Clean_s s hp)
theorem zyc (na pr:Bs) (hp:na.length≤1048576∧pr.length≤1048576):PF Tryz.prog 225 [.agg [.s na,.s pr]] (.b (hkO ⟨na,pr⟩)):=by
 refine HP zd6.d 38 [[1],[1,3],[1,3,8],[1,3],[1,3,22],[2],[2]] Tryz.func225 [.tmp 2] ?_;simp only [↓XC,X1,seval,TES,xu,XR];refine zl.of (ι:={i:Nat // i≤pr.length∧((pr.take i).all fun b=>decide (33≤b.toNat)&&decide (b.toNat≤126))=true}) (fun x=>⟨[(1,.ptr 0 0 0),(3,.i .i64 (x.1:Nat))],[some (.blk false [.s na,.s pr])]⟩) (fun x=>pr.length-x.1) ⟨0,Nat.zero_le _,rfl⟩ (Ent.refl _ _) ?_;rintro ⟨i,hi,hia⟩;simp only [↓XC,X1,seval,TES,xu,XR];have hg:∀ j,j<pr.length→pr[j]?=some (pr.getD j 0):=fun j hj=>by rw [List.getD_eq_getElem?_getD,List.getElem?_eq_getElem hj];rfl
 refine ⟨fun hl=>CO fun _=>Chk.mk (fun _=>by omega) fun _=>⟨fun h=>?_,fun h=>CR fun _=>?_⟩,fun hl=>Chk.mk hp.1 fun _=>?_⟩
 ·have hl2:i<pr.length:=by omega
  have hf:(pr.all fun b=>decide (33≤b.toNat)&&decide (b.toNat≤126))=false:=by rw [List.all_eq_false];refine ⟨pr.getD i 0,List.mem_of_getElem? (hg i hl2), ?_⟩;simp only [Bool.or_eq_true,decide_eq_true_eq] at h;simp only [Bool.and_eq_true,decide_eq_true_eq];omega
  unfold hkO;rw [hf,Bool.and_false]
 ·have hl2:i<pr.length:=by omega
  simp only [Bool.or_eq_false_iff,decide_eq_false_iff_not] at h;refine ⟨⟨i+1,by omega, ?_⟩,by simp only;omega,(by first | exact Ent.refl _ _ | (simp only [Int.natCast_add,Int.natCast_one];exact Ent.refl _ _))⟩;rw [List.take_add_one,List.all_append,hia,Bool.true_and,hg i hl2];simp only [Option.toList_some,List.all_cons,List.all_nil,Bool.and_true,Bool.and_eq_true,decide_eq_true_eq];omega
 ·obtain rfl:i=pr.length:=by omega
  rw [List.take_length] at hia;unfold hkO;rw [hia,Bool.and_true];congr 1;rw [Bool.eq_iff_iff];simp only [Bool.and_eq_true,decide_eq_true_eq];constructor
  ·rintro ⟨⟨h1,h2⟩,h3⟩;exact ⟨h1,by omega,by omega⟩
  ·rintro ⟨h1,h2,h3⟩;exact ⟨⟨h1,by omega⟩,by omega⟩
noncomputable def zd9:PE:=peR (fun (x:Bs×Bs)=>match x with | (na,pr)=>[.agg [.s na,.s pr]]) (fun (x:Bs×Bs)=>match x with | (na,pr)=>na.length≤1048576∧pr.length≤1048576) (fun (x:Bs×Bs)=>match x with | (na,pr)=>.b (hkO ⟨na,pr⟩))
theorem za3 {na pr:Bs}:zd9 [.agg [.s na,.s pr]]=some (na.length≤1048576∧pr.length≤1048576,.b (hkO ⟨na,pr⟩)):=yg (by rintro ⟨a0,a1⟩ ⟨b0,b1⟩ h;simp_all []) (na,pr)
theorem zg5:PE1 Tryz.prog 225 zd9:=yo (by rintro ⟨na,pr⟩ hp;exact zyc na pr hp)
theorem z2w (s:Bs) (h6:s.length≤60000):∀ (d:Nat) (n:Int) (i l:Bool) (x:Rb) (pr:Int),Ok s x.r→x.r.dp+d=40 → -1≤n→n≤60000→zhe Tryz.prog 226 s [.i .i64 n,.b i,.b l] pr x.r (bnF s d n i l x):=by
 intro d
 induction d with
 | zero=>
  intro n i l x pr ho hd hn1 hn2;have hB:bnF s 0 n i l x=bnR s (fun _ _ _ x=>x) n i l x:=rfl;rw [hB];exact snodeB s x pr (fun _ _ _ x=>x) n i l (fun oh oa og oe ha an tg fm pe x1 pr1 k1 k2 k3 k4 k5=>smapB s x1 pr1 (fun _ _ _ x=>x) oh oa og oe ha an tg fm pe (fun h=>by omega) ⟨h6,k1,k3,k4,k5⟩) (fun oh oa og oe x1 pr1 k1 k2 k3=>sseqB s x1 pr1 (fun _ _ _ x=>x) oh oa og oe (fun h=>by omega) ⟨h6,k1,k3⟩) _ rfl ⟨h6,ho,hn1,hn2⟩
 | succ d ih=>intro n i l x pr ho hd hn1 hn2;have hB:bnF s (d+1) n i l x=bnR s (bnF s d) n i l x:=rfl;rw [hB];exact snodeB s x pr (bnF s d) n i l (fun oh oa og oe ha an tg fm pe x1 pr1 k1 k2 k3 k4 k5=>smapB s x1 pr1 (bnF s d) oh oa og oe ha an tg fm pe (fun h=>⟨fun n2 i2 l2 x2 m1 m2 m3=>zog d n2 i2 l2 x2 m1 (by omega) m3,fun n2 i2 l2 x2 pr2 m1 m2 m3 m4=>ih n2 i2 l2 x2 pr2 m1 (by omega) m3 m4⟩) ⟨h6,k1,k3,k4,k5⟩) (fun oh oa og oe x1 pr1 k1 k2 k3=>sseqB s x1 pr1 (bnF s d) oh oa og oe (fun h=>⟨fun n2 i2 l2 x2 m1 m2 m3=>zog d n2 i2 l2 x2 m1 (by omega) m3,fun n2 i2 l2 x2 pr2 m1 m2 m3 m4=>ih n2 i2 l2 x2 pr2 m1 (by omega) m3 m4⟩) ⟨h6,k1,k3⟩) _ rfl ⟨h6,ho,hn1,hn2⟩
theorem smark (s:Bs) (r:Rd) (pr:Int) (hp:s.length≤1048576∧r.cd=0∧r.pos+3≤s.length):FnK Tryz.prog 85 4 [.ptr 0 0 0] (spC s (r) ((r).pos:Nat) pr) (fun z c=>z=.tup []∧c=(spC s (rmR s r) ((rmR s r).pos:Nat) pr)):=by
 refine HEx ku.d 26 [[0,2,3],[0,2,18],[],[]] Tryz.func85 [] (fun _=>false) [] [(0,[],[],qa (.q0 3 [3] (.q0 7 [7] (.q1 8 (.alt 9 (.q1 10 (.q1 11 (.q1 12 (.q1 13 (.q1 14 .fin))))) .fin)))))] ?_;simp only [↓XC,X1,seval,X2,wq,↓Ya,Yb,↓Yc,onB];have hr:=wx (s:=s) hp.2.2;rw [show ((r.pos:Nat):Int)+3=((r.pos+3:Nat):Int) by omega,zg s hp.2.2];refine ⟨by decide +kernel,CR fun _=>Chk.mk hp.1 fun _=>⟨fun h=>?_,fun h=>?_⟩⟩
 ·have e:rmR s r=flt r 8 (rsA s (r.pos+3)).1:=by unfold rmR;rw [if_pos (by simpa using h)]
  rw [e];refine Vm (vg s r pr 8 (rsA s (r.pos+3)).1 hp.2.1) ?_;simp only [↓XC,X1,seval,X2,↓Ya,Yb,↓Yc,onB,XM];exact Vf
 ·have e:rmR s r=atR r (rsA s (r.pos+3)).1:=by unfold rmR;rw [if_neg (by simpa using h)]
  rw [e];exact Vf
theorem sroot (s:Bs) (x:Rb) (pr:Int) (m:Bool) (R:Rb) (hR:R=(rtK s m x)) (hp:s.length≤60000∧Ok s x.r∧x.r.dp=0∧(m=true→x.r.pos+3≤s.length)∧(m=false→gpE s x.r.pos=x.r.pos∧jl s x.r.pos=false)):FnK Tryz.prog 173 1 [.ptr 0 0 0,.b m] (spC s (x.r) ((x.r).pos:Nat) pr) (fun z c=>∃ (a pr':Int) (lo:Bool),((R).r.cd=0→a=(((R).r.pos:Nat):Int)∧lo=(R).fr)∧z=.b lo∧c=(spC s ((R).r) a pr')):=by
 refine HQx (ku.c qi.d) 76 [[0,1],[0,7],[0],[0,5,6],[0,5,29],[0],[4],[0,5],[0,5,55],[0,5],[],[4],[0],[0,73],[4],[4]] Tryz.func173 [.tmp 4] (fun i=>i==8) [] [(3,[],[],qa (.q0 3 [3] (.q0 7 [7] (.alt 8 (qh .fin) .fin)))),(5,[],[],qf (.q0 4 [4,9,10,11,12] (.q0 8 [8,9,10,11,12] (.seq [9,10,11,12]))))] ?_;simp only [↓XC,X1,seval,X2,wq,zj,↓Ya,Yb,↓Yc,onB];obtain ⟨h6,ho,hd0,hm1,hm2⟩:=hp;have hs:s.length≤1048576:=by omega
 have hpos:=ho.pos;have hcd:=ho.cd;refine ⟨fun hm=>CR fun _=>?_,fun hm=>?_⟩
 ·have h3:=hm1 hm;have hr:=wx (s:=s) h3;have hw1:=jh s (x.r.pos+3);have hw2:=jg s (x.r.pos+3) h3;have hg1:=q8 s (x.r.pos+3);have hg2:=qr s (x.r.pos+3) h3;have hR2:R=if (rsA s (x.r.pos+3)).2=false then bnF s 40 (-1) true false (onB x (atR x.r (wh s (x.r.pos+3)))) else if (ovR s x.r (x.r.pos+3)).cd≠0 then onB x (ovR s x.r (x.r.pos+3)) else if jl s (ovR s x.r (x.r.pos+3)).pos=true then ntB x (ovR s x.r (x.r.pos+3)) (ppz 0) (rsA s (x.r.pos+3)).1 else bnF s 40 (-1) false false (onB x (ovR s x.r (x.r.pos+3))):=by rw [hR];unfold rtK;rw [if_neg (by rw [hm];simp)]
  rw [show ((x.r.pos:Nat):Int)+3=((x.r.pos+3:Nat):Int) by omega,zg s h3];refine ⟨by decide +kernel,Chk.mk hs fun _=>⟨fun h=>⟨by decide +kernel,Chk.mk hs fun _=>?_⟩,fun h=>?_⟩⟩
  ·have h':(rsA s (x.r.pos+3)).2=false:=by simpa using h
   have hN:=z2w s h6 40 (-1) true false (onB x (atR x.r (wh s (x.r.pos+3)))) pr (ho.at (by omega) hw2) (by show x.r.dp+40=40;omega) (by decide) (by decide);rw [show bnF s 40 (-1) true false (onB x (atR x.r (wh s (x.r.pos+3))))=R by rw [hR2,if_pos h']] at hN;unfold zhe spC at hN;refine Vq (hN) ?_;rintro z c ⟨a2,pr2,lo2,ha2,rfl,rfl⟩;simp only [↓XC,X1,seval,X2,↓Ya,Yb,↓Yc,onB,XM];refine ⟨.b lo2,(spC s ((R).r) a2 pr2),⟨a2,pr2,lo2,ha2,rfl,rfl⟩, ?_⟩;exact Vf
  ·have h':(rsA s (x.r.pos+3)).2=true:=by simpa using h
   have hL:=zr6 s (atR x.r (x.r.pos+3)) pr (rsA s (x.r.pos+3)).1 ⟨hs,hcd,hr.2⟩;rw [zva h',zvb] at hL;rw [if_neg (by rw [h'];simp)] at hR2;obtain ⟨g,hg⟩:∃ g,g=ovR s x.r (x.r.pos+3):=⟨_,rfl⟩
   rw [←hg] at hL hR2;refine Vm (hL) ?_;simp only [↓XC,X1,seval,X2,↓Ya,Yb,↓Yc,onB,XM];by_cases hgz:g.cd=0
   ·have hge:g=atR x.r (gpE s (x.r.pos+3)):=by rw [hg];exact ug (by rw [←hg];exact hgz)
    have hgp:g.pos≤s.length:=by rw [hge];exact hg2
    have hgo:Ok s g:=by rw [hge];exact ho.at (by omega) hg2
    have hgl:g.ev.length≤16777216:=Nat.le_trans (hgo.size hs) (by decide);have hgd:g.dp=0:=by rw [hge];exact hd0
    rw [if_neg (by simpa using hgz)] at hR2;simp only [decide_eq_true hgz];simp only [↓XC,X1,seval,X2,↓Ya,Yb,↓Yc,onB];refine Vm (zc9 s g pr ⟨hs,hgp⟩) ?_;simp only [↓XC,X1,seval,X2,↓Ya,Yb,↓Yc,onB,XM];refine ⟨fun h4=>?_,fun h4=>⟨fun h5=>absurd hgz (by simpa using h5),fun _=>?_⟩⟩
    ·refine Vb (snone s g pr 0 0 [] [] [] ⟨hgl,hgo.dn,hgo.bs⟩) ?_;simp only [↓XC,X1,seval,X2,↓Ya,Yb,↓Yc,onB,XM];have eR:R=ntB x g (ppz 0) (rsA s (x.r.pos+3)).1:=by rw [hR2,if_pos h4]
     rw [eR];refine ⟨.b true,(spC s ((ntB x g (ppz 0) (rsA s (x.r.pos+3)).1).r) (((rsA s (x.r.pos+3)).1:Nat):Int) pr),⟨(((rsA s (x.r.pos+3)).1:Nat):Int),pr,true,fun _=>⟨rfl,rfl⟩,rfl,rfl⟩, ?_⟩;try simp only [YC,ntB,ppz,ntR,yb,zf,atR,onB,List.length_append,List.length_cons,List.length_nil,Nat.zero_add]
     exact Vf
    ·rw [if_neg (by rw [h4];simp)] at hR2;have hN:=z2w s h6 40 (-1) false false (onB x g) pr hgo (by show g.dp+40=40;omega) (by decide) (by decide);rw [←hR2] at hN;unfold zhe spC at hN;refine Vq (hN) ?_;rintro z c ⟨a2,pr2,lo2,ha2,rfl,rfl⟩;simp only [↓XC,X1,seval,X2,↓Ya,Yb,↓Yc,onB,XM];refine ⟨.b lo2,(spC s ((R).r) a2 pr2),⟨a2,pr2,lo2,ha2,rfl,rfl⟩, ?_⟩;exact Vf
   ·simp only [decide_eq_false hgz];simp only [↓XC,X1,seval,X2,↓Ya,Yb,↓Yc,onB];refine ⟨fun _=>?_,fun h5=>absurd (by simpa using h5) hgz⟩;have eR:R=onB x g:=by rw [hR2,if_pos hgz]
    rw [eR];refine ⟨.b true,(spC s ((onB x g).r) ((g.pos:Nat):Int) pr),⟨((g.pos:Nat):Int),pr,true,fun h=>absurd h hgz,rfl,rfl⟩, ?_⟩;exact Vf
 ·obtain ⟨hq1,hq2⟩:=hm2 hm;have hR2:R=if (ze1 s x.r).cd≠0 then onB x (ze1 s x.r) else bnF s 40 (-1) false false (onB x (ze1 s x.r)):=by rw [hR];unfold rtK;rw [if_pos hm]
  have hL:=zr6 s x.r pr x.r.pos ⟨hs,hcd,hpos⟩;have hov:=ovR_lin (r:=x.r) hq1 hq2;rw [hov] at hL;obtain ⟨g,hg⟩:∃ g,g=ze1 s x.r:=⟨_,rfl⟩
  rw [←hg] at hL hR2;refine Vm (hL) ?_;simp only [↓XC,X1,seval,X2,↓Ya,Yb,↓Yc,onB,XM];refine ⟨fun h3=>?_,fun h3=>?_⟩
  ·have hgz:¬g.cd=0:=by simpa using h3
   have eR:R=onB x g:=by rw [hR2,if_pos hgz]
   rw [eR];refine ⟨.b true,(spC s ((onB x g).r) ((g.pos:Nat):Int) pr),⟨((g.pos:Nat):Int),pr,true,fun h=>absurd h hgz,rfl,rfl⟩, ?_⟩;exact Vf
  ·have hgz:g.cd=0:=by simpa using h3
   have hge:g=atR x.r (gpE s x.r.pos):=by rw [hg,←hov];exact ug (by rw [hov,←hg];exact hgz)
   have hgo:Ok s g:=by rw [hge,hq1];exact ho
   have hN:=z2w s h6 40 (-1) false false (onB x g) pr hgo (by show g.dp+40=40;rw [hge];show x.r.dp+40=40;omega) (by decide) (by decide);rw [show bnF s 40 (-1) false false (onB x g)=R by rw [hR2,if_neg (by simpa using hgz)]] at hN;unfold zhe spC at hN;refine Vq (hN) ?_;rintro z c ⟨a2,pr2,lo2,ha2,rfl,rfl⟩;simp only [↓XC,X1,seval,X2,↓Ya,Yb,↓Yc,onB,XM];refine ⟨.b lo2,(spC s ((R).r) a2 pr2),⟨a2,pr2,lo2,ha2,rfl,rfl⟩, ?_⟩;exact Vf
theorem sdir (s:Bs) (r:Rd) (pr:Int) (y:Bool) (hp:s.length≤1048576∧OkD s r∧zgr s r.pos=true):FnK Tryz.prog 172 1 [.ptr 0 0 0,.b y] (spC s (r) ((r).pos:Nat) pr) (fun z c=>∃ (a pr':Int) (yy:Bool),((dr1 s r y).cd=0→a=(((dr1 s r y).pos:Nat):Int)∧yy=drY s r.pos y)∧z=.b yy∧c=(spC s ((dr1 s r y)) a pr')):=by
 refine HQx (zdb.c (zg5.c ut.d)) 125 [[0,1],[0,1,5,6],[0,1,5,6,7],[0,1,5,6,7,53],[0,1,6,7,8],[0,1,6,7,8,9],[0,1,6,7,8,9,64,65,66],[0,1,6,7,8,9,64,65,66,67],[0,1,6,7,8,9,11,64,65,66],[0,1,6,7,8,9,64,65,66],[0,1,6,7,8,9,64,65,66],[0,1,6,7,8,84],[0,1,6],[1],[4],[0,6,109],[0,6],[],[4]] Tryz.func172 [.tmp 4] (fun _=>false) [] [(1,[],[],qa (.q0 3 [3,8,9,10,11,12,13] (.q0 7 [7,8,9,10,11,12,13] (.alt 8 (.q1 9 (.q1 10 (.alt 11 (.seq [12,13]) (.alt 12 (.seq [11,13]) .fin)))) .fin)))),(4,[],[],.q1 0 (.q1 1 (.q1 3 (.q1 4 (.q0 2 [2] (.q0 5 [5] (.q1 6 (.alt 7 (.alt 8 .fin .fin) .fin)))))))),(12,[7,10],[0,3],qe (.q0 4 [4,7,8,9,10] (.q0 5 [5,6,7,8,9,10] (.alt 6 (.sw (.alt 7 (qd (.alt 10 .fin .fin)) .fin)) .fin))))] ?_;simp only [↓XC,X1,seval,X2,zdc,za3,wu,↓Ya,Yb,↓Yc,onB];obtain ⟨hs,ho,hdi⟩:=hp;have hpos:=ho.pos;have hcd:=ho.cd;rw [zg s hpos];obtain ⟨h37,hl,hla⟩:=zdf hdi;have he:=uo s r.pos hpos;have hwp:=z2g hdi;have hwl:=fun i=>z2i (s:=s) (p:=r.pos) i;obtain ⟨w,hw⟩:∃ w,w=drW s r.pos:=⟨_,rfl⟩
 rw [show zcg s (en s r.pos) r.pos=w from hw.symm];rw [←hw] at hwp hwl;have hwn:=z2h s r.pos hpos;rw [←hw] at hwn;obtain ⟨ym,hym⟩:∃ ym,ym=(decide (((w.length:Nat):Int)=2)&&decide (w.getD 0 []=[37,89,65,77,76])&&(decide (w.getD 1 []=[49,46,49])||decide (w.getD 1 []=[49,46,50]))):=⟨_,rfl⟩
 have hO:drO s r y=if (decide (((w.length:Nat):Int)=3)&&decide (w.getD 0 []=[37,84,65,71]))=true then (hkO ⟨w.getD 1 [],w.getD 2 []⟩&&!(r.hd.any fun h=>decide (h.name=w.getD 1 []))) else (ym&&!y):=by
  have e1:zvy s r.pos=(decide (w.getD 0 []=yamW)&&decide (w.length=2)):=by rw [hw];rfl
  have e2:zxr s r.pos=(decide (w.getD 0 []=tagW)&&decide (w.length=3)):=by rw [hw];rfl
  have e3:drN s r.pos=⟨w.getD 1 [],w.getD 2 []⟩:=by rw [hw];rfl
  have e4:(r.hd.all fun h=>!decide (h.name=w.getD 1 []))=!(r.hd.any fun h=>decide (h.name=w.getD 1 [])):=by rw [List.not_any_eq_all_not]
  unfold drO;rw [e1,e2,e3,←hw,hym];simp only;rw [e4];have hy:(yamW:Bs)=[37,89,65,77,76]:=rfl;have ht:(tagW:Bs)=[37,84,65,71]:=rfl;rw [hy,ht];have q2:decide (((w.length:Nat):Int)=2)=decide (w.length=2):=by rw [Bool.eq_iff_iff,decide_eq_true_eq,decide_eq_true_eq];omega
  have q3:decide (((w.length:Nat):Int)=3)=decide (w.length=3):=by rw [Bool.eq_iff_iff,decide_eq_true_eq,decide_eq_true_eq];omega
  rw [q2,q3];by_cases h2:w.length=2
  ·simp [h2,Bool.and_assoc]
  ·by_cases h3:w.length=3
   ·simp [h3]
   ·simp [h2,h3]
 rw [←hym];have hspe:spot s ((en s r.pos:Nat):Int)=en s r.pos:=zg s he;rw [hspe];refine ⟨by decide +kernel,Chk.mk hs fun _=>and_self_iff.2 ?_⟩;refine Chk.mk (fun _=>by omega) fun _=>Chk.mk (fun h=>by simp only [Bool.and_eq_true,decide_eq_true_eq] at h;omega) fun _=>Chk.mk (fun h=>by simp only [Bool.and_eq_true,decide_eq_true_eq] at h;omega) fun _=>Chk.mk (fun _=>by omega) fun _=>⟨fun h1=>?_,fun h1=>?_⟩
 ·refine ⟨by decide +kernel,Chk.mk (by simp only [Bool.and_eq_true,decide_eq_true_eq] at h1;omega) fun _=>Chk.mk (by simp only [Bool.and_eq_true,decide_eq_true_eq] at h1;omega) fun _=>?_⟩;refine zl.of (ι:={i:Nat // i≤r.hd.length}) (fun x=>⟨[(0,.ptr 0 0 0),(1,.b y),(6,.i .i64 (en s r.pos:Nat)),(7,.b ym),(8,.ptr 4 0 0),(9,.b ((r.hd.take x.1).any fun h=>decide (h.name=(w.getD 1 [])))),(64,.slc 3 0 r.hd.length),(65,.i .i64 (r.hd.length:Nat)),(66,.i .i64 (x.1:Nat))],[some (.blk false [.s s,.i .i64 ((r).pos:Nat),.slc 1 0 (r).ev.length,.i .i64 (r).cd,.i .i64 ((r).pl:Nat),.i .i64 ((r).dp:Nat),.slc 2 0 (nmS (r).ev (r).dn (r).bs).length,.slc 3 0 (r).hd.length,.i .i64 pr]),some (.row false 8 (r).ev.length (zu evc evz (r).ev)),some (.row false 2 (nmS (r).ev (r).dn (r).bs).length (zu nac ([],false) (nmS (r).ev (r).dn (r).bs))),some (.row false 2 (r).hd.length (zu hdc hdz (r).hd)),some (.blk false [.s (w.getD 1 []),.s (w.getD 2 [])])]⟩) (fun x=>r.hd.length-x.1) ⟨0,Nat.zero_le _⟩ (Ent.refl _ _) ?_;rintro ⟨i,hi⟩;simp only [↓XC,X1,seval,X2,za3,wu,↓Ya,Yb,↓Yc,onB];refine ⟨fun hl=>CO fun _=>CO fun _=>Chk.mk (by simp only [inR];have:=ho.hd;omega) fun _=>?_,fun hl=>Chk.mk ⟨by have:=hwl 1;omega,by have:=hwl 2;omega⟩ fun _=>⟨fun h4=>?_,fun h4=>⟨fun h5=>?_,fun h5=>?_⟩⟩⟩
  ·refine ⟨⟨i+1,by omega⟩,by simp only;omega, ?_⟩;have e:((r.hd.take (i+1)).any fun h=>decide (h.name=w.getD 1 []))=(((r.hd.take i).any fun h=>decide (h.name=w.getD 1 []))||decide ((r.hd.getD i hdz).name=w.getD 1 [])):=by
    have hl2:i<r.hd.length:=by omega
    rw [List.take_add_one,List.any_append,List.getD_eq_getElem?_getD,List.getElem?_eq_getElem hl2];simp [hl2]
   simp only [e];exact (Ent.ren1 [0,1,2,3,4] (by decide) (by simp only [Yd];exact ⟨zb (by simp [Yf,Yh,onB]),za fun _=>rfl,za fun _=>rfl,za fun _=>rfl,zb (by simp [Yf])⟩) (by simp [ze,Vg.look,SV.mapH,muL,XRE,XR,XRH,XRN,Yh]))
  ·obtain rfl:i=r.hd.length:=by omega
   rw [List.take_length] at h4;have eO:drO s r y=true:=by rw [hO,if_pos h1];exact h4
   have h1':=h1;simp only [Bool.and_eq_true,decide_eq_true_eq] at h1';have hT:zxr s r.pos=true:=by unfold zxr;rw [←hw,Bool.and_eq_true,decide_eq_true_eq,decide_eq_true_eq];exact ⟨h1'.2,by omega⟩
   have hY:zvy s r.pos=false:=by unfold zvy;rw [←hw,Bool.and_eq_false_iff];right;rw [decide_eq_false_iff_not];omega
   have eR:dr1 s r y=atR (hdR r (r.hd++[(⟨w.getD 1 [],w.getD 2 []⟩:Hd)])) (gpE s (en s r.pos)):=by unfold dr1 drH;rw [if_neg (by rw [eO];simp),if_neg (by rw [hY];simp),if_pos hT,hw];rfl
   rw [hspe];refine ⟨by decide +kernel,z2 rfl rfl,Chk.mk (by have:=ho.hd;omega) fun _=>Chk.mk hs fun _=>?_⟩;rw [eR];refine ⟨.b y,(spC s ((atR (hdR r (r.hd++[(⟨w.getD 1 [],w.getD 2 []⟩:Hd)])) (gpE s (en s r.pos)))) ((gpE s (en s r.pos):Nat):Int) pr),⟨((gpE s (en s r.pos):Nat):Int),pr,y,fun _=>⟨rfl,by unfold drY;rw [hY];rfl⟩,rfl,rfl⟩, ?_⟩;simp only [YC,atR,hdR,List.length_append,List.length_cons,List.length_nil,Nat.zero_add];exact ⟨[0,1,2,6],by decide,by simp only [Yd];exact ⟨zb (by simp [Yf]),za fun _=>rfl,za fun _=>rfl,yx r.hd (⟨w.getD 1 [],w.getD 2 []⟩:Hd) (fun _=>rfl) rfl rfl rfl (fun _ _=>rfl) rfl rfl⟩,by simp only [↓XC,X1,seval];try first | rfl | simp [Yf],by simp [z6,SO.ro,YC],by simp⟩
  ·obtain rfl:i=r.hd.length:=by omega
   rw [List.take_length] at h4;have eR:dr1 s r y=flt r 13 r.pos:=by unfold dr1;rw [if_pos (by rw [hO,if_pos h1];exact h4)]
   refine Vm (vg s r pr 13 r.pos hcd) ?_;simp only [↓XC,X1,seval,X2,wu,↓Ya,Yb,↓Yc,onB,XM];rw [hspe];refine Chk.mk hs fun _=>?_;rw [eR];refine ⟨.b true,(spC s ((flt r 13 r.pos)) ((gpE s (en s r.pos):Nat):Int) pr),⟨((gpE s (en s r.pos):Nat):Int),pr,true,fun h=>absurd h (by decide:¬((13:Int)=0)),rfl,rfl⟩, ?_⟩;try simp only [YC,atR,hdR]
   exact Vf
  ·exfalso;have hyy:ym=true∧y=false:=by simpa [Bool.or_eq_false_iff] using h5
   rw [hym] at hyy;simp only [Bool.and_eq_true,decide_eq_true_eq] at hyy h1;omega
 ·refine ⟨fun h2=>?_,fun h2=>?_⟩
  ·have eR:dr1 s r y=flt r 13 r.pos:=by unfold dr1;rw [if_pos (by rw [hO,if_neg (by rw [h1];simp)];exact (by decide:∀ a b:Bool,(!a||b)=true→(a&&!b)=false) _ _ h2)]
   refine Vm (vg s r pr 13 r.pos hcd) ?_;simp only [↓XC,X1,seval,X2,wu,↓Ya,Yb,↓Yc,onB,XM];rw [hspe];refine Chk.mk hs fun _=>?_;rw [eR];refine ⟨.b true,(spC s ((flt r 13 r.pos)) ((gpE s (en s r.pos):Nat):Int) pr),⟨((gpE s (en s r.pos):Nat):Int),pr,true,fun h=>absurd h (by decide:¬((13:Int)=0)),rfl,rfl⟩, ?_⟩;try simp only [YC,atR,hdR]
   exact Vf
  ·have hyy:ym=true∧y=false:=by simpa [Bool.or_eq_false_iff] using h2
   have eO:drO s r y=true:=by rw [hO,if_neg (by rw [h1];simp),hyy.1,hyy.2];rfl
   have hYm:zvy s r.pos=true:=by rw [hym] at hyy;simp only [Bool.and_eq_true,decide_eq_true_eq] at hyy;unfold zvy;rw [←hw,Bool.and_eq_true,decide_eq_true_eq,decide_eq_true_eq];exact ⟨hyy.1.1.2,by omega⟩
   have eR:dr1 s r y=atR r (gpE s (en s r.pos)):=by unfold dr1 drH;rw [if_neg (by rw [eO];simp),if_pos hYm];rfl
   refine Chk.mk hs fun _=>?_;rw [eR];refine ⟨.b true,(spC s ((atR r (gpE s (en s r.pos)))) ((gpE s (en s r.pos):Nat):Int) pr),⟨((gpE s (en s r.pos):Nat):Int),pr,true,fun _=>⟨rfl,by unfold drY;rw [hYm];rfl⟩,rfl,rfl⟩, ?_⟩;try simp only [YC,atR,hdR]
   exact Vf
end Go.T
end
