/- Own text: part UBE. -/
import Derived.Test.YtgippllfnmdnpaaGreatDoorUBD
set_option linter.all false
section
namespace Go.T
variable [Go.Vg.Glob] [Go.Vg.GlobTabs 0 1]
open Go.Proofs Go.Vg Go.RowKit Go.TT Go.Pl
set_option maxRecDepth 10000
set_option maxHeartbeats 4000000
theorem zpe (s:Bs) (x:Rb) (sb:Int→Bool→Bool→Rb→Rb) (oh:Bool) (oa og:Bs) (ofr:Int) (oe:Nat) (ha:Bool) (an tg:Bs) (fm pe:Nat) (HS:x.r.dp<40→zko s (x.r.dp+1) sb∧∀ (n:Int) (i l:Bool) (x1:Rb),Ok s x1.r→x1.r.dp=x.r.dp+1→zb7 Tryz.prog 252 s [.i .i64 n,.b i,.b l] x1 (sb n i l x1)) (hp:s.length≤1048576∧Ok s x.r∧(kyA s x.r.pos).2.2=true∧fm≤s.length):FnK Tryz.prog 280 1 [.ptr 0 0 0,.agg [.b oh,.s oa,.s og,.i .i64 ofr,.i .i64 (oe:Nat)],.agg [.b ha,.s an,.s tg,.i .i64 (fm:Nat),.i .i64 (pe:Nat)]] (rdC s ((x).r) (x).fr ((x).lt:Nat)) (fun z c=>z=.b (decide ((mpK s sb (⟨oh,oa,og,oe⟩:Pp) (⟨ha,an,tg,pe⟩:Pp) fm x).r.cd=0))∧c=(rdC s (((mpK s sb (⟨oh,oa,og,oe⟩:Pp) (⟨ha,an,tg,pe⟩:Pp) fm x)).r) ((mpK s sb (⟨oh,oa,og,oe⟩:Pp) (⟨ha,an,tg,pe⟩:Pp) fm x)).fr (((mpK s sb (⟨oh,oa,og,oe⟩:Pp) (⟨ha,an,tg,pe⟩:Pp) fm x)).lt:Nat))):=by
 refine HEx (zao.c zam.d) 122 [[0,4,5],[0,4,5,7],[0,4,5,7,22],[0,4,5,7],[0,4,5,7,8],[0,5,8,9,10],[0,5,8,9,39],[6],[0,5,8,9,11,12],[0,5,8,9,59],[6],[0,5,8,9,13],[0,5,8,9,13,69],[6],[0,5,8,9,84],[6],[0,5,8,9,12],[0,5,8,9,100],[6],[0,5,8,9,16],[0,5,8,9,115],[6]] Tryz.func280 [.tmp 6] (fun _=>true) [4] [(11,[],[],qa (.q0 3 [3] (.q0 7 [7] (.alt 8 (.q1 9 .fin) .fin)))),(19,[],[],qa (.q0 3 [3] (.q0 7 [7] (.alt 8 (qg .fin) .fin))))] ?_;simp only [↓XC,X1,seval,X2,wz,y8,zp];obtain ⟨hs,ho,hk,hfm⟩:=hp;have hpos:=ho.pos;have hcd:=ho.cd;have hsz:=ho.size hs;have hl:x.r.pos<s.length:=by have:=xo hpos hk;omega
 refine zav.of (ι:={f:Nat // f=if ha=true then fm else x.r.pos}) (fun f=>⟨[(0,.ptr 0 0 0),(4,.ptr 5 0 0),(5,.ptr 6 0 0),(7,.i .i64 (f.1:Nat))],[some (.blk false [.s s,.i .i64 (((x).r).pos:Nat),.slc 1 0 ((x).r).ev.length,.slc 2 0 ((x).r).ev.length,.mp 3,.slc 4 0 ((x).r).hd.length,.i .i64 (((x).r).dp:Nat),.i .i64 ((x).r).cd,.i .i64 (((x).r).pl:Nat),.b (x).fr,.i .i64 ((x).lt:Nat)]),some (.row false 8 ((x).r).ev.length (zu evc evz ((x).r).ev)),some (.row false 1 ((x).r).ev.length (zu zc1 false ((x).r).dn)),some (.mapS (nmI ((x).r).ev ((x).r).bs)),some (.row false 2 ((x).r).hd.length (zu hdc hdz ((x).r).hd)),some (.blk false [.b oh,.s oa,.s og,.i .i64 ofr,.i .i64 (oe:Nat)]),some (.blk false [.b ha,.s an,.s tg,.i .i64 (fm:Nat),.i .i64 (pe:Nat)])]⟩) ?_ ?_
 ·simp only [↓XC,X1,seval,X2,↓Ya,Yb,zp,onB];exact ⟨fun h=>⟨⟨fm,by rw [if_pos h]⟩,Ent.refl _ _⟩,fun h=>⟨⟨x.r.pos,by rw [if_neg (by rw [h];simp)]⟩,(Ent.ren1 [0,1,2,3,4,5,6] (by decide) (by simp only [Yd];exact ⟨zb (by simp [Yf,Yh,onB]),za fun _=>rfl,za fun _=>rfl,zi,za fun _=>rfl,zb (by simp [Yf]),zb (by simp [Yf])⟩) (by simp [ze,Vg.look,SV.mapH,muL,onB]))⟩⟩
 rintro ⟨f,hf⟩;have hfl:f≤s.length:=by rw [hf];split<;>omega
 simp only [↓XC,X1,seval,X2,wz,↓Ya,Yb,zp,onB];rw [zg s hfl];refine Chk.mk hs fun _=>?_;refine Wb (ropen s x.r x.fr (x.lt:Nat) 4 7 oh oa og ofr oe f ⟨Nat.le_trans hsz (by decide),ho.dn,ho.bs,ho.cd,by decide,ho.dp⟩) ?_;simp only [↓XC,X1,seval,X2,↓Ya,Yb,zp,onB,XM];obtain ⟨ro,hro⟩:∃ ro,ro=opR x.r 4 7 (⟨oh,oa,og,oe⟩:Pp) f:=⟨_,rfl⟩
 rw [←hro];by_cases hz:ro.cd=0
 ·simp only [decide_eq_true hz];simp only [↓XC,X1,seval,X2,↓Ya,Yb,zp,onB];obtain ⟨hM,e1,e2,e3,e4,e5,e6⟩:=zqa ho hl (show (opR x.r 4 7 (⟨oh,oa,og,oe⟩:Pp) f).cd=0 by rw [←hro];exact hz);rw [←hro] at hM e1 e2 e3 e4 e5;rw [if_neg (show ¬40≤x.r.dp by omega)];have e:(mpK s sb (⟨oh,oa,og,oe⟩:Pp) (⟨ha,an,tg,pe⟩:Pp) fm x)=mpL s sb (coA s f) x.r.ev.length (⟨ha,an,tg,pe⟩:Pp) (onB x ro):=by unfold mpK;rw [←hf,←hro,if_neg (by simpa using hz)]
  rw [e];obtain ⟨R,hR⟩:∃ R,R=mpL s sb (coA s f) x.r.ev.length (⟨ha,an,tg,pe⟩:Pp) (onB x ro):=⟨_,rfl⟩
  rw [←hR];obtain ⟨hsk,HN⟩:=HS e6;refine zl.of (ι:={y:Pp×Int×Rb // OkM s y.2.2.r∧y.2.2.r.dp=x.r.dp+1∧x.r.ev.length<y.2.2.r.ev.length∧(kyA s y.2.2.r.pos).2.2=true∧mpL s sb (coA s f) x.r.ev.length y.1 y.2.2=R}) (fun y=>⟨[(0,.ptr 0 0 0),(5,.ptr 6 0 0),(8,.i .i64 (coA s f:Nat)),(9,.i .i64 (x.r.ev.length:Nat))],[some (.blk false [.s s,.i .i64 (((y.1.2.2).r).pos:Nat),.slc 1 0 ((y.1.2.2).r).ev.length,.slc 2 0 ((y.1.2.2).r).ev.length,.mp 3,.slc 4 0 ((y.1.2.2).r).hd.length,.i .i64 (((y.1.2.2).r).dp:Nat),.i .i64 ((y.1.2.2).r).cd,.i .i64 (((y.1.2.2).r).pl:Nat),.b (y.1.2.2).fr,.i .i64 ((y.1.2.2).lt:Nat)]),some (.row false 8 ((y.1.2.2).r).ev.length (zu evc evz ((y.1.2.2).r).ev)),some (.row false 1 ((y.1.2.2).r).ev.length (zu zc1 false ((y.1.2.2).r).dn)),some (.mapS (nmI ((y.1.2.2).r).ev ((y.1.2.2).r).bs)),some (.row false 2 ((y.1.2.2).r).hd.length (zu hdc hdz ((y.1.2.2).r).hd)),some (.blk false [.b oh,.s oa,.s og,.i .i64 ofr,.i .i64 (oe:Nat)]),some (.blk false [.b y.1.1.has,.s y.1.1.an,.s y.1.1.tg,.i .i64 y.1.2.1,.i .i64 (y.1.1.en:Nat)])]⟩) (fun y=>s.length-y.1.2.2.r.pos) ⟨((⟨ha,an,tg,pe⟩:Pp),(fm:Nat),onB x ro),hM,e5,(by show _<ro.ev.length;rw [e2];simp),(by show (kyA s ro.pos).2.2=true;rw [e1];exact hk),hR.symm⟩ (Ent.ren1 [0,1,2,3,4,5,6] (by decide) (by simp only [Yd];exact ⟨zb (by simp [Yf,Yh,onB]),za fun _=>rfl,za fun _=>rfl,zi,za fun _=>rfl,zb (by simp [Yf]),zb (by simp [Yf])⟩) (by simp [ze,Vg.look,SV.mapH,muL,onB])) ?_;rintro ⟨⟨own,fy,y⟩,hy,hyd,hye,hyk,hyR⟩;simp only [↓XC,X1,seval,X2,↓Ya,Yb,zp,onB];obtain ⟨oha,oan,otg,oen⟩:=own;simp only at hy hyd hye hyk hyR;obtain ⟨k1,k2,k3,k4,k5⟩:=xo (Nat.le_of_lt hy.pos) hyk;have hysz:=hy.sz;have hypos:=hy.pos;refine Wb (rkey s y.r y.fr (y.lt:Nat) oha oan otg fy oen ⟨hs,hy,hyk⟩) ?_;simp only [↓XC,X1,seval,X2,↓Ya,Yb,zp,onB,XM];obtain ⟨kr,hkr⟩:∃ kr,kr=kyR s y.r (⟨oha,oan,otg,oen⟩:Pp):=⟨_,rfl⟩
  rw [←hkr];by_cases hkz:kr.cd=0
  ·simp only [decide_eq_true hkz];simp only [↓XC,X1,seval,X2,↓Ya,Yb,zp,onB];obtain ⟨ke,kq,ke1,ke2⟩:=kyR_k hy.cd (Nat.le_of_lt hy.pos) (show (kyR s y.r (⟨oha,oan,otg,oen⟩:Pp)).cd=0 by rw [←hkr];exact hkz);rw [←hkr] at ke1;have hoA:Ok s (atR kr ((kyA s y.r.pos).2.1.toNat+1)):=by rw [ke1];exact ⟨hy.cd,k3,by simp [xd,atR,zf,hy.dn],by simp only [xd,atR,zf,List.length_append];have:=hy.bs;omega,hy.dp,by simp only [xd,atR,zf,List.length_append,List.length_singleton];omega,hy.hd,hy.pf⟩
   have hA2:kr.ev.length+1≤8 * ((kyA s y.r.pos).2.1.toNat+1)+64:=by rw [ke1];simp only [xd,atR,zf,List.length_append,List.length_singleton];omega
   have hkd:kr.dp=x.r.dp+1:=by rw [ke1];exact hyd
   obtain ⟨v,hv⟩:∃ v,v=vlK s sb (kyA s y.r.pos).2.1.toNat (coA s f:Nat) false (onB y kr):=⟨_,rfl⟩
   have hV:=rvalue s (onB y kr) sb (kyA s y.r.pos).2.1.toNat (coA s f:Nat) false (fun n i l x1 h1 h2=>HN n i l x1 h1 (by rw [h2];exact hkd)) ⟨hs,hoA,hA2,k3⟩;rw [k5,←hv] at hV;simp only [onB] at hV;refine Wb (hV) ?_;simp only [↓XC,X1,seval,X2,↓Ya,Yb,zp,onB,XM];by_cases hvz:v.r.cd=0
   ·have hvk:VlA s kr ((kyA s y.r.pos).2.1.toNat+1) v.r:=by have h:=hvz;rw [hv] at h ⊢;exact zw3 (x:=onB y kr) (by show zko s kr.dp sb;rw [hkd];exact hsk) hoA hA2 k3 h
    simp only [decide_eq_true hvz];simp only [↓XC,X1,seval,X2,↓Ya,Yb,zp,onB];have hvo:=hvk.ok;refine Wm (rnext s v.r v.fr (v.lt:Nat) ⟨hs,hvz,hvo.pos⟩) ?_;simp only [↓XC,X1,seval,X2,↓Ya,Yb,zp,onB,XM];obtain ⟨w,hw⟩:∃ w,w=nxK s v:=⟨_,rfl⟩
    have hw0:(nxK s ⟨v.r,v.fr,0⟩).r=w.r:=by rw [hw];rfl
    rw [hw0,show v.r.pos=w.lt by rw [hw,(zgo s v).2],show v.fr=w.fr by rw [hw,(zgo s v).1]];have hmS:mpS s sb (coA s f) (⟨oha,oan,otg,oen⟩:Pp) y=w:=by unfold mpS;rw [←hkr,if_neg (by simpa using hkz),←hv,if_neg (by simpa using hvz),hw]
    by_cases hwz:w.r.cd=0
    ·simp only [decide_eq_true hwz];simp only [↓XC,X1,seval,X2,wz,↓Ya,Yb,zp,onB];obtain ⟨v2,hEn⟩:=mpS_k (c:=coA s f) (own:=(⟨oha,oan,otg,oen⟩:Pp)) (by rw [hyd];exact hsk) hy hyk (by rw [hmS];exact hwz);rw [hmS] at hEn;have hwp:w.r.pos≤s.length:=by rw [hEn.eq.1];exact qr s _ hEn.ok.pos
     rw [zg s hwp];refine ⟨by decide +kernel,Chk.mk hs fun _=>?_⟩;refine Wm (zda s w.r w.fr (w.lt:Nat) w.r.pos ⟨hs,hwp⟩) ?_;simp only [↓XC,X1,seval,X2,wz,↓Ya,Yb,zp,onB,XM];have hv2:=hEn.ok;have hwev:w.r.ev=v2.ev:=by rw [hEn.eq.1];rfl
     have hwO:Ok s w.r:=by rw [hEn.eq.1];exact hv2.at (q8 s v2.pos) (qr s v2.pos hv2.pos)
     have hwsz:w.r.ev.length≤16777216:=Nat.le_trans (hwO.size hs) (by decide);have hwk:x.r.ev.length<w.r.ev.length:=by rw [hwev];exact Nat.lt_of_lt_of_le hye hEn.pre.length_le
     have hwd:w.r.dp=x.r.dp+1:=by rw [hEn.eq.1];exact hEn.dp.trans hyd
     have hwdp:=hwO.dp;cases hst:jl s w.r.pos
     ·simp only [↓XC,X1,seval,X2,↓Ya,Yb,zp,onB];refine ⟨fun h2=>?_,fun h2=>?_⟩
      ·refine Wb (rdone s w.r w.fr x.r.ev.length w.lt ⟨hwsz,hwO.dn,hwO.bs,hwk,by omega,hwdp⟩) ?_;simp only [↓XC,X1,seval,X2,↓Ya,Yb,zp,onB,XM];have e:R=dnK w x.r.ev.length:=by rw [←hyR,mpL_d hmS hwz (.inr (by omega))]
       rw [e];try simp only [dnK,atR,shR,List.length_append,List.length_cons,List.length_nil,Nat.zero_add]
       exact Wf (by simp only [↓XC,X1,seval];try simp [Yf,onB,hwz])
      have h2n:¬(jl s w.r.pos=true∨coA s w.r.pos<coA s f):=by rw [hst];simp only [Bool.false_eq_true,false_or];omega
      refine ⟨fun h3=>?_,fun h3=>?_⟩
      ·refine Wm (wy s w.r w.fr (w.lt:Nat) 9 w.r.pos hwz) ?_;simp only [↓XC,X1,seval,X2,↓Ya,Yb,zp,onB,XM];have e:R=onB w (flt w.r 9 w.r.pos):=by rw [←hyR,mpL_9 hmS hwz h2n (by omega)]
       rw [e];exact Wf
      have h3n:¬coA s f<coA s w.r.pos:=by omega
      refine Wm (zo7 s w.r w.fr (w.lt:Nat) false ⟨hs,hwz,hwp,hwO.hd,hwO.pf⟩) ?_;simp only [↓XC,X1,seval,X2,↓Ya,Yb,zp,onB,XM];obtain ⟨q,hq⟩:∃ q,q=prR s false w.r:=⟨_,rfl⟩
      obtain ⟨pp,hpp⟩:∃ pp,pp=prP s false w.r:=⟨_,rfl⟩
      rw [←hq,←hpp];by_cases hqz:q.cd=0
      ·simp only [decide_eq_true hqz];simp only [↓XC,X1,seval,X2,y8,↓Ya,Yb,zp,onB];obtain ⟨qp,e9,l9,l10,_⟩:=xn (fl:=false) hwp hwz (show (prR s false w.r).cd=0 by rw [←hq];exact hqz);rw [←hq] at e9;have hqpos:q.pos≤s.length:=by rw [e9];exact l10
       rw [zg s hqpos];refine ⟨by decide +kernel,Chk.mk hs fun _=>⟨fun h5=>?_,fun h5=>?_⟩⟩
       ·refine Wm (wy s q w.fr (w.lt:Nat) 10 q.pos hqz) ?_;simp only [↓XC,X1,seval,X2,↓Ya,Yb,zp,onB,XM];have e:R=onB w (flt q 10 q.pos):=by rw [←hyR,mpL_10 hmS hwz h2n h3n (by rw [←hq];exact hqz) (by rw [←hq];simpa using h5),hq]
        rw [e];exact Wf
       ·have h5t:(kyA s q.pos).2.2=true:=by simpa using h5
        have hql:qp<s.length:=by rw [e9] at h5t;have h:=xo (show (atR w.r qp).pos≤s.length from l10) h5t;have h1:=h.2.2.1;have h2:=h.2.2.2.1;simp only [atR] at h1 h2;omega
        have hqe:q=atR v2 qp:=by rw [e9,hEn.eq.1];rfl
        obtain ⟨hM2,h6,h7⟩:=hEn.next (q:=qp) hy (by decide) (by rw [hEn.eq.1] at l9;exact l9) hql
        refine ⟨⟨(pp,(w.r.pos:Nat),onB w q), ?_, ?_, ?_,h5t, ?_⟩, ?_,(Ent.ren1 [0,1,2,3,4,5,6] (by decide) (by simp only [Yd];exact ⟨zb (by simp [Yf,Yh,onB]),za fun _=>rfl,za fun _=>rfl,zi,za fun _=>rfl,zb (by simp [Yf]),zb (by simp [Yf])⟩) (by simp [ze,Vg.look,SV.mapH,muL,onB]))⟩
        ·show OkM s q;rw [hqe];exact hM2
        ·show q.dp=_;rw [e9];exact hwd
        ·show _<q.ev.length;rw [e9];exact hwk
        ·show mpL s sb (coA s f) x.r.ev.length pp (onB w q)=R;rw [←hyR,mpL_n hmS hwz h2n h3n (by rw [←hq];exact hqz) (by rw [←hq];exact h5t) ⟨by rw [←hq,hqe];exact h6,hypos⟩,hq,hpp]
        ·show s.length-q.pos<_;rw [hqe];simp only [atR];omega
      ·simp only [decide_eq_false hqz];simp only [↓XC,X1,seval,X2,↓Ya,Yb,zp,onB];have e:R=onB w q:=by rw [←hyR,mpL_p hmS hwz h2n h3n (by rw [←hq];exact hqz),hq]
       rw [e];exact Wf (by simp only [↓XC,X1,seval];try simp [Yf,onB,hqz])
     ·simp only [↓XC,X1,seval,X2,↓Ya,Yb,zp,onB];refine Wb (rdone s w.r w.fr x.r.ev.length w.lt ⟨hwsz,hwO.dn,hwO.bs,hwk,by omega,hwdp⟩) ?_;simp only [↓XC,X1,seval,X2,↓Ya,Yb,zp,onB,XM];have e:R=dnK w x.r.ev.length:=by rw [←hyR,mpL_d hmS hwz (.inl hst)]
      rw [e];try simp only [dnK,atR,shR,List.length_append,List.length_cons,List.length_nil,Nat.zero_add]
      exact Wf (by simp only [↓XC,X1,seval];try simp [Yf,onB,hwz])
    ·simp only [decide_eq_false hwz];simp only [↓XC,X1,seval,X2,↓Ya,Yb,zp,onB];have e:R=w:=by rw [←hyR,zxm hmS hwz]
     rw [e];exact Wf (by simp only [↓XC,X1,seval];try simp [Yf,onB,hwz])
   ·simp only [decide_eq_false hvz];simp only [↓XC,X1,seval,X2,↓Ya,Yb,zp,onB];have e:R=v:=by rw [←hyR,zxm (w:=v) (by unfold mpS;rw [←hkr,if_neg (by simpa using hkz),←hv,if_pos hvz]) hvz]
    rw [e];exact Wf (by simp only [↓XC,X1,seval];try simp [Yf,onB,hvz])
  ·simp only [decide_eq_false hkz];simp only [↓XC,X1,seval,X2,↓Ya,Yb,zp,onB];have e:R=onB y kr:=by rw [←hyR,zxm (w:=onB y kr) (by unfold mpS;rw [←hkr,if_pos hkz]) hkz]
   rw [e];exact Wf (by simp only [↓XC,X1,seval];try simp [Yf,onB,hkz])
 ·simp only [decide_eq_false hz];simp only [↓XC,X1,seval,X2,↓Ya,Yb,zp,onB];have e:(mpK s sb (⟨oh,oa,og,oe⟩:Pp) (⟨ha,an,tg,pe⟩:Pp) fm x)=onB x ro:=by unfold mpK;rw [←hf,←hro,if_pos hz]
  rw [e];exact Wf (by simp only [↓XC,X1,seval];try simp [Yf,onB,hz])
theorem zld (s:Bs) (x:Rb) (sb:Int→Bool→Bool→Rb→Rb) (oh:Bool) (oa og:Bs) (ofr:Int) (oe:Nat) (HS:x.r.dp<40→zko s (x.r.dp+1) sb∧∀ (n:Int) (i l:Bool) (x1:Rb),Ok s x1.r→x1.r.dp=x.r.dp+1→zb7 Tryz.prog 252 s [.i .i64 n,.b i,.b l] x1 (sb n i l x1)) (hp:s.length≤1048576∧Ok s x.r∧x.r.pos<s.length):FnK Tryz.prog 282 1 [.ptr 0 0 0,.agg [.b oh,.s oa,.s og,.i .i64 ofr,.i .i64 (oe:Nat)]] (rdC s ((x).r) (x).fr ((x).lt:Nat)) (fun z c=>z=.b (decide ((lsK s sb (⟨oh,oa,og,oe⟩:Pp) x).r.cd=0))∧c=(rdC s (((lsK s sb (⟨oh,oa,og,oe⟩:Pp) x)).r) ((lsK s sb (⟨oh,oa,og,oe⟩:Pp) x)).fr (((lsK s sb (⟨oh,oa,og,oe⟩:Pp) x)).lt:Nat))):=by
 refine HEx (zao.c zbm.d) 94 [[0,3],[0,3,5],[0,5,6,7],[0,5,6,29],[4],[0,5,6,42],[4],[0,5,6,8],[0,5,6,8,52],[4],[0,5,6,84],[4]] Tryz.func282 [.tmp 4] (fun _=>true) [3] [(1,[],[],qa (.q0 3 [3] (.q0 7 [7] (.alt 8 (.q1 9 .fin) .fin)))),(2,[],[],.q1 0 (.q1 2 (.q1 3 (.q1 4 (.q0 1 [1,6,7,8,9,10,11] (.q0 5 [5,6,7,8,9,10,11] (.alt 6 (.alt 7 (.alt 8 (.alt 9 (.seq [10,11]) (.alt 10 (.seq [9,11]) .fin)) (.alt 9 (.seq [8,10,11]) .fin)) .fin) .fin))))))),(7,[],[],qa (.q0 3 [3] (.q0 7 [7] (.alt 8 (.q1 9 .fin) .fin)))),(8,[],[],qe (.q0 4 [4,5,6,7,8,9,10,11,12,13,14,15,16,17,18,19,20,21,22,23,24,25,26,27,28] (.alt 5 (.q1 6 (.q1 7 (.q1 8 (qg (.q1 16 (.q1 17 (.q1 18 (.q1 20 (.q1 21 (.q1 22 (.alt 19 (.seq [23,24,25,26,27,28]) (.alt 23 (.seq [19,24,25,26,27,28]) .fin)))))))))))) .fin)))] ?_;simp only [↓XC,X1,seval,X2,wz,y3,zp];obtain ⟨hs,ho,hl⟩:=hp;have hpos:=ho.pos;have hcd:=ho.cd;have hsz:=ho.size hs;rw [zg s hpos];refine ⟨by decide +kernel,Chk.mk hs fun _=>?_⟩;obtain ⟨ro,hro⟩:∃ ro,ro=opR x.r 3 7 (⟨oh,oa,og,oe⟩:Pp) x.r.pos:=⟨_,rfl⟩
 refine zav.of (ι:=Unit) (fun _=>⟨[(0,.ptr 0 0 0),(5,.i .i64 (coA s x.r.pos:Nat)),(6,.i .i64 (if 40≤x.r.dp then 0 else x.r.ev.length:Nat)),(7,.b (decide (ro.cd=0)))],[some (.blk false [.s s,.i .i64 ((ro).pos:Nat),.slc 1 0 (ro).ev.length,.slc 2 0 (ro).ev.length,.mp 3,.slc 4 0 (ro).hd.length,.i .i64 ((ro).dp:Nat),.i .i64 (ro).cd,.i .i64 ((ro).pl:Nat),.b x.fr,.i .i64 (x.lt:Nat)]),some (.row false 8 (ro).ev.length (zu evc evz (ro).ev)),some (.row false 1 (ro).ev.length (zu zc1 false (ro).dn)),some (.mapS (nmI (ro).ev (ro).bs)),some (.row false 2 (ro).hd.length (zu hdc hdz (ro).hd)),some (.blk false [.b oh,.s oa,.s og,.i .i64 ofr,.i .i64 (oe:Nat)])]⟩) ?_ ?_
 ·simp only [↓XC,X1,seval,X2,↓Ya,Yb,zp,onB];refine ⟨by decide +kernel, ?_⟩;refine Wb (ropen s x.r x.fr (x.lt:Nat) 3 7 oh oa og ofr oe x.r.pos ⟨Nat.le_trans hsz (by decide),ho.dn,ho.bs,ho.cd,by decide,ho.dp⟩) ?_;simp only [↓XC,X1,seval,X2,↓Ya,Yb,zp,onB,XM];rw [←hro];exact ⟨⟨⟨(),(Ent.ren1 [0,1,2,3,4,5] (by decide) (by simp only [Yd];exact ⟨zb (by simp [Yf,Yh,onB]),za fun _=>rfl,za fun _=>rfl,zi,za fun _=>rfl,zb (by simp [Yf])⟩) (by simp [ze,Vg.look,SV.mapH,muL,onB]))⟩,⟨(),(Ent.ren1 [0,1,2,3,4,5] (by decide) (by simp only [Yd];exact ⟨zb (by simp [Yf,Yh,onB]),za fun _=>rfl,za fun _=>rfl,zi,za fun _=>rfl,zb (by simp [Yf])⟩) (by simp [ze,Vg.look,SV.mapH,muL,onB]))⟩⟩,⟨(),(Ent.ren1 [0,1,2,3,4,5] (by decide) (by simp only [Yd];exact ⟨zb (by simp [Yf,Yh,onB]),za fun _=>rfl,za fun _=>rfl,zi,za fun _=>rfl,zb (by simp [Yf])⟩) (by simp [ze,Vg.look,SV.mapH,muL,onB]))⟩⟩
 rintro ⟨⟩;simp only [↓XC,X1,seval,X2,↓Ya,Yb,zp,onB];refine ⟨fun h=>?_,fun h=>?_⟩
 ·have hz:¬ro.cd=0:=by simpa using h
  have e:(lsK s sb (⟨oh,oa,og,oe⟩:Pp) x)=onB x ro:=by unfold lsK;rw [←hro,if_pos hz]
  rw [e];exact Wf (by simp only [↓XC,X1,seval];try simp [Yf,onB,hz])
 ·have hz:ro.cd=0:=by simpa using h
  obtain ⟨hM,e1,e2,e3,e4,e5,e6⟩:=zqa ho hl (show (opR x.r 3 7 (⟨oh,oa,og,oe⟩:Pp) x.r.pos).cd=0 by rw [←hro];exact hz);rw [←hro] at hM e1 e2 e3 e4 e5;rw [if_neg (show ¬40≤x.r.dp by omega)];have e:(lsK s sb (⟨oh,oa,og,oe⟩:Pp) x)=lsL s sb (coA s x.r.pos) x.r.ev.length (onB x ro):=by unfold lsK;rw [←hro,if_neg (by simpa using hz)]
  rw [e];obtain ⟨R,hR⟩:∃ R,R=lsL s sb (coA s x.r.pos) x.r.ev.length (onB x ro):=⟨_,rfl⟩
  rw [←hR];obtain ⟨hsk,HN⟩:=HS e6;refine zl.of (ι:={y:Rb // OkM s y.r∧y.r.dp=x.r.dp+1∧x.r.ev.length<y.r.ev.length∧lsL s sb (coA s x.r.pos) x.r.ev.length y=R}) (fun y=>⟨[(0,.ptr 0 0 0),(5,.i .i64 ((coA s x.r.pos):Nat)),(6,.i .i64 (x.r.ev.length:Nat))],[some (.blk false [.s s,.i .i64 (((y.1).r).pos:Nat),.slc 1 0 ((y.1).r).ev.length,.slc 2 0 ((y.1).r).ev.length,.mp 3,.slc 4 0 ((y.1).r).hd.length,.i .i64 (((y.1).r).dp:Nat),.i .i64 ((y.1).r).cd,.i .i64 (((y.1).r).pl:Nat),.b (y.1).fr,.i .i64 ((y.1).lt:Nat)]),some (.row false 8 ((y.1).r).ev.length (zu evc evz ((y.1).r).ev)),some (.row false 1 ((y.1).r).ev.length (zu zc1 false ((y.1).r).dn)),some (.mapS (nmI ((y.1).r).ev ((y.1).r).bs)),some (.row false 2 ((y.1).r).hd.length (zu hdc hdz ((y.1).r).hd)),some (.blk false [.b oh,.s oa,.s og,.i .i64 ofr,.i .i64 (oe:Nat)])]⟩) (fun y=>s.length-y.1.r.pos) ⟨onB x ro,hM,e5,(by show _<ro.ev.length;rw [e2];simp),hR.symm⟩ (Ent.ren1 [0,1,2,3,4,5] (by decide) (by simp only [Yd];exact ⟨zb (by simp [Yf,Yh,onB]),za fun _=>rfl,za fun _=>rfl,zi,za fun _=>rfl,zb (by simp [Yf])⟩) (by simp [ze,Vg.look,SV.mapH,muL,onB])) ?_;rintro ⟨y,hy,hyd,hye,hyR⟩;simp only [↓XC,X1,seval,X2,↓Ya,Yb,zp,onB];have hy0:=hy.cd;have hysz:=hy.sz;have hypos:=hy.pos;have hoA:Ok s (atR y.r (y.r.pos+1)):=⟨hy.cd,hypos,hy.dn,hy.bs,hy.dp,by simp only [atR];omega,hy.hd,hy.pf⟩
  have hA2:y.r.ev.length+1≤8 * (y.r.pos+1)+64:=by omega
  obtain ⟨v,hv⟩:∃ v,v=vlK s sb y.r.pos (coA s x.r.pos) true y:=⟨_,rfl⟩
  have hV:=rvalue s y sb y.r.pos (coA s x.r.pos) true (fun n i l x1 h1 h2=>HN n i l x1 h1 (by rw [h2];exact hyd)) ⟨hs,hoA,hA2,hypos⟩;rw [←hv] at hV;refine Wb (hV) ?_;simp only [↓XC,X1,seval,X2,↓Ya,Yb,zp,onB,XM];by_cases hvz:v.r.cd=0
  ·have hvk:VlA s y.r (y.r.pos+1) v.r:=by have h:=hvz;rw [hv] at h ⊢;exact zw3 (by rw [hyd];exact hsk) hoA hA2 hypos h
   simp only [decide_eq_true hvz];simp only [↓XC,X1,seval,X2,↓Ya,Yb,zp,onB];have hvo:=hvk.ok;refine Wm (rnext s v.r v.fr (v.lt:Nat) ⟨hs,hvz,hvo.pos⟩) ?_;simp only [↓XC,X1,seval,X2,↓Ya,Yb,zp,onB,XM];obtain ⟨w,hw⟩:∃ w,w=nxK s v:=⟨_,rfl⟩
   have hw0:(nxK s ⟨v.r,v.fr,0⟩).r=w.r:=by rw [hw];rfl
   rw [hw0,show v.r.pos=w.lt by rw [hw,(zgo s v).2],show v.fr=w.fr by rw [hw,(zgo s v).1]];have hmS:lsS s sb (coA s x.r.pos) y=w:=by unfold lsS;rw [←hv,if_neg (by simpa using hvz),hw]
   by_cases hwz:w.r.cd=0
   ·simp only [decide_eq_true hwz];simp only [↓XC,X1,seval,X2,wz,y3,↓Ya,Yb,zp,onB];obtain ⟨v2,hEn⟩:=lsS_k (c:=(coA s x.r.pos)) (by rw [hyd];exact hsk) hy (by rw [hmS];exact hwz);rw [hmS] at hEn;have hv2:=hEn.ok;have hwp:w.r.pos≤s.length:=by rw [hEn.eq.1];exact qr s _ hv2.pos
    rw [zg s hwp];refine ⟨by decide +kernel,Chk.mk hs fun _=>?_⟩;have hwev:w.r.ev=v2.ev:=by rw [hEn.eq.1];rfl
    have hwO:Ok s w.r:=by rw [hEn.eq.1];exact hv2.at (q8 s v2.pos) (qr s v2.pos hv2.pos)
    have hwsz:w.r.ev.length≤16777216:=Nat.le_trans (hwO.size hs) (by decide);have hwk:x.r.ev.length<w.r.ev.length:=by rw [hwev];exact Nat.lt_of_lt_of_le hye hEn.pre.length_le
    have hwd:w.r.dp=x.r.dp+1:=by rw [hEn.eq.1];exact hEn.dp.trans hyd
    have hwdp:=hwO.dp;refine ⟨by decide +kernel, ?_⟩;refine Wm (zda s w.r w.fr (w.lt:Nat) w.r.pos ⟨hs,hwp⟩) ?_;simp only [↓XC,X1,seval,X2,wz,y3,↓Ya,Yb,zp,onB,XM];have hwpl:jl s w.r.pos=false→w.r.pos<s.length:=fun h=>(zn8 h).1;have hC:∀ {P:Prop},(P→((P∧P)∧s.length≤1048576∧(0:Int)≤(w.r.pos:Nat)∧((w.r.pos:Nat):Int)≤(s.length:Nat))):=fun h=>⟨⟨h,h⟩,hs,by omega,by omega⟩
    cases hst:jl s w.r.pos
    ·simp only [↓XC,X1,seval,X2,wz,y3,↓Ya,Yb,zp,onB];refine ⟨Chk.mk hC fun _=>⟨fun h2=>?_,fun h2=>⟨fun h3=>?_,fun h3=>?_⟩⟩,Chk.mk hC fun _=>⟨fun h2=>?_,fun h2=>⟨fun h3=>?_,fun h3=>?_⟩⟩⟩
     rotate_left 3
     iterate 2
      rotate_left 3
      ·simp only [Bool.or_eq_true,Bool.and_eq_true,decide_eq_true_eq,Bool.not_eq_true'] at h2;refine Wb (rdone s w.r w.fr x.r.ev.length w.lt ⟨hwsz,hwO.dn,hwO.bs,hwk,by omega,hwdp⟩) ?_;simp only [↓XC,X1,seval,X2,↓Ya,Yb,zp,onB,XM];have e:R=dnK w x.r.ev.length:=by rw [←hyR,lsL_d hmS hwz (.inr (by rcases h2 with h | ⟨h,h9⟩;exact .inl (by omega);exact .inr ⟨by omega,h9⟩))]
       rw [e];try simp only [dnK,atR,shR,List.length_append,List.length_cons,List.length_nil,Nat.zero_add]
       exact Wf (by simp only [↓XC,X1,seval];try simp [Yf,onB,hwz])
      ·simp only [Bool.or_eq_false_iff,Bool.and_eq_false_iff,decide_eq_false_iff_not,Bool.not_eq_false'] at h2;have h2n:¬(jl s w.r.pos=true∨coA s w.r.pos<coA s x.r.pos∨(coA s w.r.pos=coA s x.r.pos∧zgq s w.r.pos=false)):=by
        rw [hst];rintro (h | h | ⟨h,h9⟩)
        ·cases h
        ·exact h2.1 (by omega)
        ·rcases h2.2 with h8 | h8
         ·exact h8 (by omega)
         ·rw [h9] at h8;cases h8
       refine Wm (wy s w.r w.fr (w.lt:Nat) 9 w.r.pos hwz) ?_;simp only [↓XC,X1,seval,X2,↓Ya,Yb,zp,onB,XM];have e:R=onB w (flt w.r 9 w.r.pos):=by rw [←hyR,lsL_9 hmS hwz h2n (by omega)]
       rw [e];exact Wf
      ·simp only [Bool.or_eq_false_iff,Bool.and_eq_false_iff,decide_eq_false_iff_not,Bool.not_eq_false'] at h2;have h2n:¬(jl s w.r.pos=true∨coA s w.r.pos<coA s x.r.pos∨(coA s w.r.pos=coA s x.r.pos∧zgq s w.r.pos=false)):=by
        rw [hst];rintro (h | h | ⟨h,h9⟩)
        ·cases h
        ·exact h2.1 (by omega)
        ·rcases h2.2 with h8 | h8
         ·exact h8 (by omega)
         ·rw [h9] at h8;cases h8
       have h3n:¬coA s x.r.pos<coA s w.r.pos:=by omega
       have hql:=hwpl hst;obtain ⟨hM2,h6,h7⟩:=hEn.next (q:=w.r.pos) hy (by decide) (by rw [hEn.eq.1];exact Nat.le_refl _) hql
       have hwe2:atR v2 w.r.pos=w.r:=by rw [hEn.eq.1];rfl
       rw [hwe2] at hM2;refine ⟨⟨w,hM2,hwd,hwk, ?_⟩,by show s.length-w.r.pos<_;omega,(Ent.ren1 [0,1,2,3,4,5] (by decide) (by simp only [Yd];exact ⟨zb (by simp [Yf,Yh,onB]),za fun _=>rfl,za fun _=>rfl,zi,za fun _=>rfl,zb (by simp [Yf])⟩) (by simp [ze,Vg.look,SV.mapH,muL,onB]))⟩;rw [←hyR,lsL_n hmS hwz h2n h3n ⟨h6,hypos⟩]
    ·simp only [↓XC,X1,seval,X2,wz,y3,↓Ya,Yb,zp,onB];refine ⟨Chk.mk hC fun _=>?_,Chk.mk hC fun _=>?_⟩;all_goals
      refine Wb (rdone s w.r w.fr x.r.ev.length w.lt ⟨hwsz,hwO.dn,hwO.bs,hwk,by omega,hwdp⟩) ?_;simp only [↓XC,X1,seval,X2,↓Ya,Yb,zp,onB,XM];have e:R=dnK w x.r.ev.length:=by rw [←hyR,lsL_d hmS hwz (.inl hst)]
      rw [e];try simp only [dnK,atR,shR,List.length_append,List.length_cons,List.length_nil,Nat.zero_add]
      exact Wf (by simp only [↓XC,X1,seval];try simp [Yf,onB,hwz])
   ·simp only [decide_eq_false hwz];simp only [↓XC,X1,seval,X2,↓Ya,Yb,zp,onB];have e:R=w:=by rw [←hyR,lsL_m hmS hwz]
    rw [e];exact Wf (by simp only [↓XC,X1,seval];try simp [Yf,onB,hwz])
  ·simp only [decide_eq_false hvz];simp only [↓XC,X1,seval,X2,↓Ya,Yb,zp,onB];have e:R=v:=by rw [←hyR,lsL_m (w:=v) (by unfold lsS;rw [←hv,if_pos hvz]) hvz]
   rw [e];exact Wf (by simp only [↓XC,X1,seval];try simp [Yf,onB,hvz])
theorem zlc (s:Bs) (x:Rb) (sb:Int→Bool→Bool→Rb→Rb) (n:Int) (inl lo:Bool) (HM:∀ (oh:Bool) (oa og:Bs) (ofr:Int) (oe:Nat) (ha:Bool) (an tg:Bs) (fm pe:Nat) (x1:Rb),Ok s x1.r→x1.r.dp=x.r.dp→(kyA s x1.r.pos).2.2=true→fm≤s.length→zb7 Tryz.prog 280 s [.agg [.b oh,.s oa,.s og,.i .i64 ofr,.i .i64 (oe:Nat)],.agg [.b ha,.s an,.s tg,.i .i64 (fm:Nat),.i .i64 (pe:Nat)]] x1 (mpK s sb (⟨oh,oa,og,oe⟩:Pp) (⟨ha,an,tg,pe⟩:Pp) fm x1)) (HL:∀ (oh:Bool) (oa og:Bs) (ofr:Int) (oe:Nat) (x1:Rb),Ok s x1.r→x1.r.dp=x.r.dp→x1.r.pos<s.length→zb7 Tryz.prog 282 s [.agg [.b oh,.s oa,.s og,.i .i64 ofr,.i .i64 (oe:Nat)]] x1 (lsK s sb (⟨oh,oa,og,oe⟩:Pp) x1)) (hp:s.length≤1048576∧Ok s x.r):FnK Tryz.prog 252 1 [.ptr 0 0 0,.i .i64 n,.b inl,.b lo] (rdC s ((x).r) (x).fr ((x).lt:Nat)) (fun z c=>z=.b (decide ((bnR s sb n inl lo x).r.cd=0))∧c=(rdC s (((bnR s sb n inl lo x)).r) ((bnR s sb n inl lo x)).fr (((bnR s sb n inl lo x)).lt:Nat))):=by
 refine HEx (vd.c (zam.c (zbm.c qv.d))) 154 [[0,1,2,3],[0,1,2,3,9,10],[0,1,2,3,9,25],[8],[0,1,2,3,9,11],[0,1,2,3,9,11,28],[0,1,2,3,9,11,12,13],[0,1,2,3,9,11,12,39],[0,1,3,9,11,12,44],[8],[0,1,9,11,12,57],[],[8],[0,1,2,9,11],[0,1,2,9,10,11],[0,1,2,9,11,69],[8],[0,1,2,9,11,16],[0,1,2,9,11,83],[8],[0,1,9,11,93],[8],[0,1,9,11,115],[0,9,18],[0,9,132],[8],[8],[0,1,9,11,146],[0,1,9],[8]] Tryz.func252 [.tmp 8] (fun _=>true) [17,29] [(6,[],[],.q1 0 (.q1 1 (.q1 2 (.q1 4 (.q0 3 [3] (.q0 5 [5] (.alt 6 (.q1 7 (qd (.q1 10 (.q1 11 .fin)))) .fin))))))),(17,[],[],qa (.q0 3 [3] (.q0 7 [7] (.alt 8 (qg .fin) .fin)))),(20,[],[],qe (.q0 4 [4] (.q1 5 (.q1 6 (.q1 7 (qd (.q1 10 (.q1 12 (.q1 13 (.q1 14 (.q0 11 [11] (.q0 15 [15] (.alt 16 (.q1 17 (.q1 18 .fin)) .fin))))))))))))),(23,[],[],.q1 0 (.q1 1 (.q1 2 (.q1 4 (.q0 3 [3] (.q0 5 [5] (.alt 6 (.q1 7 (qd (.q1 10 (.q1 11 .fin)))) .fin))))))),(25,[],[],qe (.q1 5 (.q0 4 [4,7,8,9] (.q0 6 [6,7,8,9] (.seq [7,8,9])))))] ?_;simp only [↓XC,X1,seval,X2,yu,y8,y3,zz,zp];obtain ⟨hs,ho⟩:=hp;have hpos:=ho.pos;have hcd:=ho.cd;refine Wm (zo7 s x.r x.fr (x.lt:Nat) false ⟨hs,hcd,hpos,ho.hd,ho.pf⟩) ?_;simp only [↓XC,X1,seval,X2,↓Ya,Yb,zp,onB,XM];obtain ⟨q,hq⟩:∃ q,q=prR s false x.r:=⟨_,rfl⟩
 obtain ⟨pp,hpp⟩:∃ pp,pp=prP s false x.r:=⟨_,rfl⟩
 rw [←hq,←hpp];by_cases hqz:q.cd=0
 ·simp only [decide_eq_true hqz];simp only [↓XC,X1,seval,X2,↓Ya,Yb,zp,onB];obtain ⟨qp,e9,l9,l10,h11,h12⟩:=xn (fl:=false) hpos hcd (show (prR s false x.r).cd=0 by rw [←hq];exact hqz);rw [←hq] at e9;rw [←hpp] at h11;have hqo:Ok s q:=by rw [e9];exact ho.at l9 l10
  have hqd:q.dp=x.r.dp:=by rw [e9];rfl
  have hpe:pp.has=true→x.r.pos<pp.en∧pp.en≤s.length∧pp.en≤qp:=fun h=>by
   have h1:=zh2 hpos h12 (by rw [←hpp];exact h);have h2:(prs s x.r.hd false x.r.pos (ppz x.r.pos)).1=qp:=by have h3:=e9;rw [hq] at h3;unfold prR at h3;rw [if_pos h12] at h3;exact congrArg Rd.pos h3
   rw [h2,←hpp] at h1;exact h1
  refine zav.of (ι:={u:(Bool×Pp×Int)×Pp×Nat×Rd // (bnR s sb n inl lo x)=bnE s sb n u.1.1 u.1.2.1 u.2.1 u.2.2.1 (onB x u.2.2.2)∧Ok s u.2.2.2∧u.2.2.2.dp=x.r.dp∧u.2.2.1≤s.length∧(u.2.1.has=true→u.2.1.en≤s.length)}) (fun u=>⟨[(0,.ptr 0 0 0),(1,.i .i64 n),(2,.b u.1.1.1),(9,.ptr 5 0 0),(11,.ptr 6 0 0)],[some (.blk false [.s s,.i .i64 ((u.1.2.2.2).pos:Nat),.slc 1 0 (u.1.2.2.2).ev.length,.slc 2 0 (u.1.2.2.2).ev.length,.mp 3,.slc 4 0 (u.1.2.2.2).hd.length,.i .i64 ((u.1.2.2.2).dp:Nat),.i .i64 (u.1.2.2.2).cd,.i .i64 ((u.1.2.2.2).pl:Nat),.b x.fr,.i .i64 (x.lt:Nat)]),some (.row false 8 (u.1.2.2.2).ev.length (zu evc evz (u.1.2.2.2).ev)),some (.row false 1 (u.1.2.2.2).ev.length (zu zc1 false (u.1.2.2.2).dn)),some (.mapS (nmI (u.1.2.2.2).ev (u.1.2.2.2).bs)),some (.row false 2 (u.1.2.2.2).hd.length (zu hdc hdz (u.1.2.2.2).hd)),some (.blk false [.b u.1.2.1.has,.s u.1.2.1.an,.s u.1.2.1.tg,.i .i64 (u.1.2.2.1:Nat),.i .i64 (u.1.2.1.en:Nat)]),some (.blk false [.b u.1.1.2.1.has,.s u.1.1.2.1.an,.s u.1.1.2.1.tg,.i .i64 u.1.1.2.2,.i .i64 (u.1.1.2.1.en:Nat)])]⟩) ?_ ?_
  ·simp only [↓XC,X1,seval,X2,yu,↓Ya,Yb,zp,onB];have hW:¬(pp.has=true∧(rsA s pp.en).2=true)→(bnR s sb n inl lo x)=bnE s sb n inl (ppz 0) pp x.r.pos (onB x q):=fun h=>by unfold bnR;rw [←hq,←hpp,if_neg (by simpa using hqz),if_neg h]
   have hP:¬(pp.has=true∧(rsA s pp.en).2=true)→(bnR s sb n inl lo x)=bnE s sb n inl (ppz 0) pp x.r.pos (onB x q)∧Ok s q∧q.dp=x.r.dp∧x.r.pos≤s.length∧(pp.has=true→pp.en≤s.length):=fun h=>⟨hW h,hqo,hqd,hpos,fun h=>(hpe h).2.1⟩
   refine ⟨fun hh=>?_,fun hh=>?_⟩
   ·rw [zg s (hpe hh).2.1];refine ⟨by decide +kernel,Chk.mk hs fun _=>⟨fun hr=>?_,fun hr=>?_⟩⟩
    ·have hcc:pp.has=true∧(rsA s pp.en).2=true:=⟨hh,hr⟩
     refine Wm (zzp s q x.fr (x.lt:Nat) pp.en ⟨hs,hqz,(hpe hh).2.1⟩) ?_;simp only [↓XC,X1,seval,X2,↓Ya,Yb,zp,onB,XM];obtain ⟨v,hv⟩:∃ v,v=ovR s q pp.en:=⟨_,rfl⟩
     rw [←hv];by_cases hvz:v.cd=0
     ·simp only [decide_eq_true hvz];simp only [↓XC,X1,seval,X2,↓Ya,Yb,zp,onB];have hge1:=q8 s pp.en;have hge2:=qr s pp.en (hpe hh).2.1;have hve:v=atR q (gpE s pp.en):=by rw [hv];exact ug (by rw [←hv];exact hvz)
      have hvo:Ok s v:=by rw [hve,e9];exact ho.at (q:=gpE s pp.en) (by have:=(hpe hh).1;omega) hge2
      have hvp:=hvo.pos;have hvl:v.ev.length≤16777216:=Nat.le_trans (hvo.size hs) (by decide);have hvd:v.dp=x.r.dp:=by rw [hve];exact hqd
      refine Wm (zda s v x.fr (x.lt:Nat) v.pos ⟨hs,hvp⟩) ?_;simp only [↓XC,X1,seval,X2,↓Ya,Yb,zp,onB,XM];cases hst:jl s v.pos
      ·simp only [↓XC,X1,seval,X2,↓Ya,Yb,zp,onB];refine Wm (zz0 s v x.fr (x.lt:Nat) n lo ⟨hs,hvp⟩) ?_;simp only [↓XC,X1,seval,X2,↓Ya,Yb,zp,onB,XM];cases hdp:dpA s v.pos n lo
       ·simp only [↓XC,X1,seval,X2,↓Ya,Yb,zp,onB];refine Wb (zdr s v x.fr (x.lt:Nat) pp.has pp.an pp.tg (x.r.pos:Nat) pp.en (rsA s pp.en).1 ⟨hvl,hvo.dn,hvo.bs⟩) ?_;simp only [↓XC,X1,seval,X2,↓Ya,Yb,zp,onB,XM];have e:(bnR s sb n inl lo x)=ntB x v pp (rsA s pp.en).1:=by unfold bnR;rw [←hq,←hpp,if_neg (by simpa using hqz),if_pos hcc,←hv,if_neg (by simpa using hvz),if_pos (.inr hdp)]
        rw [e];try simp only [ntB,ntR,atR,yb,zf,List.length_append,List.length_cons,List.length_nil,Nat.zero_add]
        exact Wf (by simp only [↓XC,X1,seval];try simp [Yf,onB,hvz])
       ·simp only [↓XC,X1,seval,X2,↓Ya,Yb,zp,onB];refine Wm (zo7 s v x.fr (x.lt:Nat) false ⟨hs,hvz,hvp,hvo.hd,hvo.pf⟩) ?_;simp only [↓XC,X1,seval,X2,↓Ya,Yb,zp,onB,XM];obtain ⟨q2,hq2⟩:∃ q2,q2=prR s false v:=⟨_,rfl⟩
        obtain ⟨pp2,hpp2⟩:∃ pp2,pp2=prP s false v:=⟨_,rfl⟩
        rw [←hq2,←hpp2];have hU:(bnR s sb n inl lo x)=if q2.cd≠0 then onB x q2 else bnE s sb n false pp pp2 v.pos (onB x q2):=by unfold bnR;rw [←hq,←hpp,if_neg (by simpa using hqz),if_pos hcc,←hv,if_neg (by simpa using hvz),if_neg (by rw [hst,hdp];simp),←hq2,←hpp2]
        by_cases hq2z:q2.cd=0
        ·simp only [decide_eq_true hq2z];simp only [↓XC,X1,seval,X2,↓Ya,Yb,zp,onB];obtain ⟨qp2,f9,m9,m10,g11,g12⟩:=xn (fl:=false) hvp hvz (show (prR s false v).cd=0 by rw [←hq2];exact hq2z);rw [←hq2] at f9;have hq2o:Ok s q2:=by rw [f9];exact hvo.at m9 m10
         refine ⟨⟨((false,pp,(x.r.pos:Nat)),pp2,v.pos,q2), ?_,hq2o, ?_,hvp,fun h=>?_⟩,(Ent.ren1 [0,1,2,3,4,5,6] (by decide) (by simp only [Yd];exact ⟨zb (by simp [Yf,Yh,onB]),za fun _=>rfl,za fun _=>rfl,zi,za fun _=>rfl,zb (by simp [Yf]),zb (by simp [Yf])⟩) (by simp [ze,Vg.look,SV.mapH,muL,onB]))⟩
         ·rw [hU,if_neg (by simpa using hq2z)];rfl
         ·show q2.dp=_;rw [f9];exact hvd
         ·show pp2.en≤s.length;rw [hpp2];exact (zh2 hvp g12 (by rw [←hpp2];exact h)).2.1
        ·simp only [decide_eq_false hq2z];simp only [↓XC,X1,seval,X2,↓Ya,Yb,zp,onB];rw [hU,if_pos hq2z];exact Wf (by simp only [↓XC,X1,seval];try simp [Yf,onB,hq2z])
      ·simp only [↓XC,X1,seval,X2,↓Ya,Yb,zp,onB];refine Wb (zdr s v x.fr (x.lt:Nat) pp.has pp.an pp.tg (x.r.pos:Nat) pp.en (rsA s pp.en).1 ⟨hvl,hvo.dn,hvo.bs⟩) ?_;simp only [↓XC,X1,seval,X2,↓Ya,Yb,zp,onB,XM];have e:(bnR s sb n inl lo x)=ntB x v pp (rsA s pp.en).1:=by unfold bnR;rw [←hq,←hpp,if_neg (by simpa using hqz),if_pos hcc,←hv,if_neg (by simpa using hvz),if_pos (.inl hst)]
       rw [e];try simp only [ntB,ntR,atR,yb,zf,List.length_append,List.length_cons,List.length_nil,Nat.zero_add]
       exact Wf (by simp only [↓XC,X1,seval];try simp [Yf,onB,hvz])
     ·simp only [decide_eq_false hvz];simp only [↓XC,X1,seval,X2,↓Ya,Yb,zp,onB];have e:(bnR s sb n inl lo x)=onB x v:=by unfold bnR;rw [←hq,←hpp,if_neg (by simpa using hqz),if_pos hcc,←hv,if_pos hvz]
      rw [e];exact Wf (by simp only [↓XC,X1,seval];try simp [Yf,onB,hvz])
    ·exact ⟨⟨((inl,(⟨false,[],[],0⟩:Pp),0),pp,x.r.pos,q),hP (by rw [hr];simp)⟩,(Ent.ren1 [0,1,2,3,4,5,6] (by decide) (by simp only [Yd];exact ⟨zb (by simp [Yf,Yh,onB,ppz]),za fun _=>rfl,za fun _=>rfl,zi,za fun _=>rfl,zb (by simp [Yf]),zb (by simp [Yf])⟩) (by simp [ze,Vg.look,SV.mapH,muL,onB,ppz]))⟩
   ·exact ⟨⟨((inl,(⟨false,[],[],0⟩:Pp),0),pp,x.r.pos,q),hP (by rw [hh];simp)⟩,(Ent.ren1 [0,1,2,3,4,5,6] (by decide) (by simp only [Yd];exact ⟨zb (by simp [Yf,Yh,onB,ppz]),za fun _=>rfl,za fun _=>rfl,zi,za fun _=>rfl,zb (by simp [Yf]),zb (by simp [Yf])⟩) (by simp [ze,Vg.look,SV.mapH,muL,onB,ppz]))⟩
  rintro ⟨⟨⟨inl2,ou,ofr⟩,own,fm,y⟩,hy1,hy2,hy3,hy4,hy5⟩;simp only at hy1 hy2 hy3 hy4 hy5;have hy2p:=hy2.pos;simp only [↓XC,X1,seval,X2,y8,↓Ya,Yb,zp,onB];rw [zg s hy2.pos];refine ⟨by decide +kernel,Chk.mk hs fun _=>?_⟩;refine zav.of (ι:={u:Pp×Int // (bnR s sb n inl lo x)=scK s (onB x y) u.1 n}) (fun u=>⟨[(0,.ptr 0 0 0),(1,.i .i64 n),(9,.ptr 5 0 0)],[some (.blk false [.s s,.i .i64 ((y).pos:Nat),.slc 1 0 (y).ev.length,.slc 2 0 (y).ev.length,.mp 3,.slc 4 0 (y).hd.length,.i .i64 ((y).dp:Nat),.i .i64 (y).cd,.i .i64 ((y).pl:Nat),.b x.fr,.i .i64 (x.lt:Nat)]),some (.row false 8 (y).ev.length (zu evc evz (y).ev)),some (.row false 1 (y).ev.length (zu zc1 false (y).dn)),some (.mapS (nmI (y).ev (y).bs)),some (.row false 2 (y).hd.length (zu hdc hdz (y).hd)),some (.blk false [.b u.1.1.has,.s u.1.1.an,.s u.1.1.tg,.i .i64 u.1.2,.i .i64 (u.1.1.en:Nat)]),some (.blk false [.b ou.has,.s ou.an,.s ou.tg,.i .i64 ofr,.i .i64 (ou.en:Nat)])]⟩) ?_ ?_
  ·simp only [↓XC,X1,seval,X2,y8,y3,yu,zz,↓Ya,Yb,zp,onB];obtain ⟨ouh,oua,oug,oue⟩:=ou;obtain ⟨owh,owa,owg,owe⟩:=own;cases inl2<;>cases owh<;>cases ouh
   ·simp only [↓XC,X1,seval,X2,y8,y3,yu,zz,↓Ya,Yb,zp,onB];refine ⟨fun hk=>?_,fun hk=>?_⟩
    ·have hN:=HM false oua oug ofr oue false owa owg fm owe (onB x y) hy2 hy3 hk hy4;unfold zb7 rdC at hN;refine Wb (hN) ?_;simp only [↓XC,X1,seval,X2,↓Ya,Yb,zp,onB,XM];rw [hy1,bnE,if_pos ⟨rfl,hk⟩];exact Wf
    ·refine ⟨by decide +kernel,Chk.mk ⟨hs,by omega,by omega⟩ fun _=>⟨fun hd=>?_,fun hd=>?_⟩⟩
     ·have hN:=HL false oua oug ofr oue (onB x y) hy2 hy3 (zn9 hd);unfold zb7 rdC at hN;refine Wb (hN) ?_;simp only [↓XC,X1,seval,X2,↓Ya,Yb,zp,onB,XM];rw [hy1,bnE,if_neg (by simp [onB,hk]),if_pos ⟨rfl,rfl,hd⟩];exact Wf
     ·exact ⟨⟨((⟨false,owa,owg,owe⟩:Pp),(fm:Nat)),by rw [hy1,bnE,if_neg (by simp [onB,hk]),if_neg (by simp [onB,hd]),if_neg (by simp),if_neg (by simp)];rfl⟩,(Ent.ren1 [0,1,2,3,4,5,6] (by decide) (by simp only [Yd];exact ⟨zb (by simp [Yf,Yh,onB]),za fun _=>rfl,za fun _=>rfl,zi,za fun _=>rfl,zb (by simp [Yf]),zb (by simp [Yf])⟩) (by simp [ze,Vg.look,SV.mapH,muL,onB]))⟩
   ·simp only [↓XC,X1,seval,X2,y8,y3,yu,zz,↓Ya,Yb,zp,onB];refine ⟨fun hk=>?_,fun hk=>?_⟩
    ·have hN:=HM true oua oug ofr oue false owa owg fm owe (onB x y) hy2 hy3 hk hy4;unfold zb7 rdC at hN;refine Wb (hN) ?_;simp only [↓XC,X1,seval,X2,↓Ya,Yb,zp,onB,XM];rw [hy1,bnE,if_pos ⟨rfl,hk⟩];exact Wf
    ·refine ⟨by decide +kernel,Chk.mk ⟨hs,by omega,by omega⟩ fun _=>⟨fun hd=>?_,fun hd=>?_⟩⟩
     ·have hN:=HL true oua oug ofr oue (onB x y) hy2 hy3 (zn9 hd);unfold zb7 rdC at hN;refine Wb (hN) ?_;simp only [↓XC,X1,seval,X2,↓Ya,Yb,zp,onB,XM];rw [hy1,bnE,if_neg (by simp [onB,hk]),if_pos ⟨rfl,rfl,hd⟩];exact Wf
     ·exact ⟨⟨((⟨true,oua,oug,oue⟩:Pp),ofr),by rw [hy1,bnE,if_neg (by simp [onB,hk]),if_neg (by simp [onB,hd]),if_neg (by simp),if_pos rfl];rfl⟩,(Ent.ren1 [0,1,2,3,4,5,6] (by decide) (by simp only [Yd];exact ⟨zb (by simp [Yf,Yh,onB]),za fun _=>rfl,za fun _=>rfl,zi,za fun _=>rfl,zb (by simp [Yf]),zb (by simp [Yf])⟩) (by simp [ze,Vg.look,SV.mapH,muL,onB]))⟩
   ·simp only [↓XC,X1,seval,X2,y8,y3,yu,zz,↓Ya,Yb,zp,onB];refine ⟨fun hk=>?_,fun hk=>?_⟩
    ·have hN:=HM false oua oug ofr oue true owa owg fm owe (onB x y) hy2 hy3 hk hy4;unfold zb7 rdC at hN;refine Wb (hN) ?_;simp only [↓XC,X1,seval,X2,↓Ya,Yb,zp,onB,XM];rw [hy1,bnE,if_pos ⟨rfl,hk⟩];exact Wf
    ·exact ⟨by decide +kernel,⟨((⟨true,owa,owg,owe⟩:Pp),(fm:Nat)),by rw [hy1,bnE,if_neg (by simp [onB,hk]),if_neg (by simp),if_neg (by simp),if_neg (by simp)];rfl⟩,(Ent.ren1 [0,1,2,3,4,5,6] (by decide) (by simp only [Yd];exact ⟨zb (by simp [Yf,Yh,onB]),za fun _=>rfl,za fun _=>rfl,zi,za fun _=>rfl,zb (by simp [Yf]),zb (by simp [Yf])⟩) (by simp [ze,Vg.look,SV.mapH,muL,onB]))⟩
   ·simp only [↓XC,X1,seval,X2,y8,y3,yu,zz,↓Ya,Yb,zp,onB];refine ⟨fun hk=>?_,fun hk=>?_⟩
    ·have hN:=HM true oua oug ofr oue true owa owg fm owe (onB x y) hy2 hy3 hk hy4;unfold zb7 rdC at hN;refine Wb (hN) ?_;simp only [↓XC,X1,seval,X2,↓Ya,Yb,zp,onB,XM];rw [hy1,bnE,if_pos ⟨rfl,hk⟩];exact Wf
    ·rw [zg s (hy5 rfl)];refine ⟨by decide +kernel,by decide +kernel,Chk.mk hs fun _=>⟨fun hr=>?_,fun hr=>?_⟩⟩
     ·refine ⟨by decide +kernel,Chk.mk hs fun _=>?_⟩;refine Wm (wy s y x.fr (x.lt:Nat) 10 (wh s owe) hy2.cd) ?_;simp only [↓XC,X1,seval,X2,↓Ya,Yb,zp,onB,XM];rw [hy1,bnE,if_neg (by simp [onB,hk]),if_neg (by simp),if_pos ⟨rfl,rfl⟩,if_pos hr];exact Wf
     ·refine Wm (wy s y x.fr (x.lt:Nat) 7 fm hy2.cd) ?_;simp only [↓XC,X1,seval,X2,↓Ya,Yb,zp,onB,XM];rw [hy1,bnE,if_neg (by simp [onB,hk]),if_neg (by simp),if_pos ⟨rfl,rfl⟩,if_neg (by rw [hr];simp)];exact Wf
   ·simp only [↓XC,X1,seval,X2,y8,y3,yu,zz,↓Ya,Yb,zp,onB];exact ⟨by decide +kernel,⟨((⟨false,owa,owg,owe⟩:Pp),(fm:Nat)),by rw [hy1,bnE,if_neg (by simp),if_neg (by simp),if_neg (by simp),if_neg (by simp)];rfl⟩,(Ent.ren1 [0,1,2,3,4,5,6] (by decide) (by simp only [Yd];exact ⟨zb (by simp [Yf,Yh,onB]),za fun _=>rfl,za fun _=>rfl,zi,za fun _=>rfl,zb (by simp [Yf]),zb (by simp [Yf])⟩) (by simp [ze,Vg.look,SV.mapH,muL,onB]))⟩
   ·simp only [↓XC,X1,seval,X2,y8,y3,yu,zz,↓Ya,Yb,zp,onB];exact ⟨by decide +kernel,⟨((⟨true,oua,oug,oue⟩:Pp),ofr),by rw [hy1,bnE,if_neg (by simp),if_neg (by simp),if_neg (by simp),if_pos rfl];rfl⟩,(Ent.ren1 [0,1,2,3,4,5,6] (by decide) (by simp only [Yd];exact ⟨zb (by simp [Yf,Yh,onB]),za fun _=>rfl,za fun _=>rfl,zi,za fun _=>rfl,zb (by simp [Yf]),zb (by simp [Yf])⟩) (by simp [ze,Vg.look,SV.mapH,muL,onB]))⟩
   ·simp only [↓XC,X1,seval,X2,y8,y3,yu,zz,↓Ya,Yb,zp,onB];exact ⟨by decide +kernel,⟨((⟨true,owa,owg,owe⟩:Pp),(fm:Nat)),by rw [hy1,bnE,if_neg (by simp),if_neg (by simp),if_neg (by simp),if_neg (by simp)];rfl⟩,(Ent.ren1 [0,1,2,3,4,5,6] (by decide) (by simp only [Yd];exact ⟨zb (by simp [Yf,Yh,onB]),za fun _=>rfl,za fun _=>rfl,zi,za fun _=>rfl,zb (by simp [Yf]),zb (by simp [Yf])⟩) (by simp [ze,Vg.look,SV.mapH,muL,onB]))⟩
   ·simp only [↓XC,X1,seval,X2,y8,y3,yu,zz,↓Ya,Yb,zp,onB];rw [zg s (hy5 rfl)];refine ⟨by decide +kernel,by decide +kernel,Chk.mk hs fun _=>⟨fun hr=>?_,fun hr=>?_⟩⟩
    ·refine ⟨by decide +kernel,Chk.mk hs fun _=>?_⟩;refine Wm (wy s y x.fr (x.lt:Nat) 10 (wh s owe) hy2.cd) ?_;simp only [↓XC,X1,seval,X2,↓Ya,Yb,zp,onB,XM];rw [hy1,bnE,if_neg (by simp),if_neg (by simp),if_pos ⟨rfl,rfl⟩,if_pos hr];exact Wf
    ·refine Wm (wy s y x.fr (x.lt:Nat) 7 fm hy2.cd) ?_;simp only [↓XC,X1,seval,X2,↓Ya,Yb,zp,onB,XM];rw [hy1,bnE,if_neg (by simp),if_neg (by simp),if_pos ⟨rfl,rfl⟩,if_neg (by rw [hr];simp)];exact Wf
  rintro ⟨⟨w,wf⟩,hw⟩;simp only at hw;simp only [↓XC,X1,seval,X2,↓Ya,Yb,zp,onB];refine Wb (rscalar s y x.fr (x.lt:Nat) w.has w.an w.tg wf w.en n ⟨hs,hy2⟩) ?_;simp only [↓XC,X1,seval,X2,↓Ya,Yb,zp,onB,XM];rw [hw,scK_lt];exact Wf
 ·simp only [decide_eq_false hqz];simp only [↓XC,X1,seval,X2,↓Ya,Yb,zp,onB];have e:(bnR s sb n inl lo x)=onB x q:=by unfold bnR;rw [←hq,if_pos hqz]
  rw [e];exact Wf (by simp only [↓XC,X1,seval];try simp [Yf,onB,hqz])
theorem zz1 (s:Bs) (hs:s.length≤1048576):∀ (d:Nat) (x:Rb) (n:Int) (i l:Bool),Ok s x.r→x.r.dp+d=40→zb7 Tryz.prog 252 s [.i .i64 n,.b i,.b l] x (bnF s d n i l x):=by
 intro d
 induction d with
 | zero=>
  intro x n i l ho hd;refine zlc s x (fun _ _ _ x=>x) n i l (fun oh oa og ofr oe ha an tg fm pe x1 h1 h2 h3 h4=>?_) (fun oh oa og ofr oe x1 h1 h2 h3=>?_) ⟨hs,ho⟩
  ·exact zpe s x1 (fun _ _ _ x=>x) oh oa og ofr oe ha an tg fm pe (fun h=>by omega) ⟨hs,h1,h3,h4⟩
  ·exact zld s x1 (fun _ _ _ x=>x) oh oa og ofr oe (fun h=>by omega) ⟨hs,h1,h3⟩
 | succ d ih=>
  intro x n i l ho hd;refine zlc s x (bnF s d) n i l (fun oh oa og ofr oe ha an tg fm pe x1 h1 h2 h3 h4=>?_) (fun oh oa og ofr oe x1 h1 h2 h3=>?_) ⟨hs,ho⟩
  ·exact zpe s x1 (bnF s d) oh oa og ofr oe ha an tg fm pe (fun h=>⟨fun n2 i2 l2 x2 k1 k2 k3=>zog d n2 i2 l2 x2 k1 (by omega) k3,fun n2 i2 l2 x2 k1 k2=>ih x2 n2 i2 l2 k1 (by omega)⟩) ⟨hs,h1,h3,h4⟩
  ·exact zld s x1 (bnF s d) oh oa og ofr oe (fun h=>⟨fun n2 i2 l2 x2 k1 k2 k3=>zog d n2 i2 l2 x2 k1 (by omega) k3,fun n2 i2 l2 x2 k1 k2=>ih x2 n2 i2 l2 k1 (by omega)⟩) ⟨hs,h1,h3⟩
end Go.T
end
