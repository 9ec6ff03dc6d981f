/- Own text: part UBK. -/
import Derived.Test.YtgippllfnmdnpaaGreatDoorUBJ
import Derived.Test.YtgippllfnmdnpaaGreatDoorUBH
import Derived.Test.YtgippllfnmdnpaaGreatDoorUAR
set_option linter.all false
section
namespace Go.T
variable [Go.Vg.Glob] [Go.Vg.GlobTabs 0 1]
open Go.Proofs Go.Vg Go.RowKit Go.TT Go.Pl
set_option maxRecDepth 10000
set_option maxHeartbeats 4000000
theorem sseqB (s:Bs) (x:Rb) (pr:Int) (sb:Int→Bool→Bool→Rb→Rb) (oh:Bool) (oa og:Bs) (oe:Nat) (HS:x.r.dp<40→zko s (x.r.dp+1) sb∧∀ (n:Int) (i l:Bool) (x1:Rb) (pr1:Int),Ok s x1.r→x1.r.dp=x.r.dp+1 → -1≤n→n≤60000→zhe Tryz.prog 226 s [.i .i64 n,.b i,.b l] pr1 x1.r (sb n i l x1)) (hp:s.length≤60000∧Ok s x.r∧x.r.pos<s.length):FnK Tryz.prog 261 1 [.ptr 0 0 0,.agg [.i .i64 0,.i .i64 0,.b false,.s [],.s oa,.s og,.i .i64 0,.i .i64 0]] (spC s (x.r) ((x.r).pos:Nat) pr) (fun z c=>∃ (a pr':Int),(((lsK s sb (⟨oh,oa,og,oe⟩:Pp) x)).r.cd=0→a=((((lsK s sb (⟨oh,oa,og,oe⟩:Pp) x)).r.pos:Nat):Int)∧((lsK s sb (⟨oh,oa,og,oe⟩:Pp) x)).fr=true)∧z=.tup []∧c=(spC s (((lsK s sb (⟨oh,oa,og,oe⟩:Pp) x)).r) a pr')):=by
 refine HQx (zan.c zak.d) 101 [[0,3],[0,3,4],[0,4,5],[0,4,5,24],[0,4,5,6],[0,4,5,6,7],[0,4,5,6,7,36],[0,4,5,7],[0,4,5,7,44],[0,4,5,7,60],[],[0,4,5,7,93],[0,5],[]] Tryz.func261 [] (fun _=>true) [] [(1,[],[],qa (.q0 3 [3] (.q0 7 [7] (.alt 8 (.q1 9 .fin) .fin)))),(9,[],[],.q1 0 (.alt 1 (.q1 2 (.q1 3 (.q1 4 (.q1 5 (.q1 6 (qd (.q1 10 (.q1 13 (.q0 7 [7,12,14,15] (.q0 11 [11,12,14,15] (.seq [12,14,15]))))))))))) .fin)),(11,[],[],.q1 0 (.alt 1 (.q1 2 (.q1 3 (.q1 4 (.q1 5 (.q1 7 (qd (.q1 12 (.q0 6 [6,11,13,14,15,16,17,18,19,20,21,22,23,24,25,26] (.q0 10 [10,11,13,14,15,16,17,18,19,20,21,22,23,24,25,26] (.alt 11 (.q1 13 (.q1 14 (.q1 15 (.q1 16 (.q1 17 (.q1 18 (.q1 20 (.q1 21 (.q1 22 (.q0 19 [19,24,25,26] (.q0 23 [23,24,25,26] (.seq [24,25,26])))))))))))) .fin)))))))))) .fin))] ?_;simp only [↓XC,X1,seval,X2,yj,kz,↓Ya,Yb,↓Yc,onB];obtain ⟨h6,ho,hl⟩:=hp;have hs:s.length≤1048576:=by omega
 have hpos:=ho.pos;have hcd:=ho.cd;have hsz:=ho.size hs;have hcl:coA s x.r.pos≤60000:=by unfold coA;omega
 obtain ⟨R,hR⟩:∃ R,R=(lsK s sb (⟨oh,oa,og,oe⟩:Pp) x):=⟨_,rfl⟩
 rw [←hR];rw [zg s hpos];refine ⟨by decide +kernel,Chk.mk hs fun _=>?_⟩;refine Vb (sopen s x.r pr 0 0 [] oa og 3 7 ⟨by omega,ho.dn,ho.bs,ho.cd,ho.dp⟩) ?_;simp only [↓XC,X1,seval,X2,↓Ya,Yb,↓Yc,onB,XM];obtain ⟨ro,hro⟩:∃ ro,ro=opR x.r 3 7 (⟨oh,oa,og,oe⟩:Pp) x.r.pos:=⟨_,rfl⟩
 rw [show opR x.r 3 7 (⟨false,oa,og,0⟩:Pp) x.r.pos=ro from hro.symm];have hI0:(ro.cd=0∧((ro.pos:Nat):Int)=(ro.pos:Nat)∧OkM s ro∧ro.dp=x.r.dp+1∧x.r.dp<40∧(x.r.ev++[evO 3 7 oa og]) <+: ro.ev∧ro.bs=x.r.bs∧lsL s sb (coA s x.r.pos) x.r.ev.length (onB x ro)=R)∨(ro.cd≠0∧R=(onB x ro)):=by
  by_cases hz:ro.cd=0
  ·obtain ⟨hM,e1,e2,e3,e4,e5,e6⟩:=zqa ho hl (show (opR x.r 3 7 (⟨oh,oa,og,oe⟩:Pp) x.r.pos).cd=0 by rw [←hro];exact hz);rw [←hro] at hM e1 e2 e3 e4 e5;exact .inl ⟨hz,rfl,hM,e5,e6,by rw [e2];exact List.prefix_refl _,e4,by rw [hR];unfold lsK;rw [←hro,if_neg (by simpa using hz)]⟩
  ·exact .inr ⟨hz,by rw [hR];unfold lsK;rw [←hro,if_pos hz]⟩
 refine zl.of (ι:={y:Rb×Int×Int // (y.1.r.cd=0∧y.2.1=(y.1.r.pos:Nat)∧OkM s y.1.r∧y.1.r.dp=x.r.dp+1∧x.r.dp<40∧(x.r.ev++[evO 3 7 oa og]) <+: y.1.r.ev∧y.1.r.bs=x.r.bs∧lsL s sb (coA s x.r.pos) x.r.ev.length y.1=R)∨(y.1.r.cd≠0∧R=y.1)}) (fun y=>⟨[(0,.ptr 0 0 0),(4,.i .i64 ((coA s x.r.pos:Nat):Int)),(5,.i .i64 (if 40≤x.r.dp then (-2:Int) else if oa=[] then -1 else ((nmS x.r.ev x.r.dn x.r.bs).length:Nat)))],(spC s (y.1.1.r) y.1.2.1 y.1.2.2)⟩) (fun y=>if y.1.1.r.cd=0 then s.length+1-y.1.1.r.pos else 0) ⟨(onB x ro,((ro.pos:Nat):Int),pr),hI0⟩ (Ent.ren1 [0,1,2,3] (by decide) (by simp only [Yd];exact ⟨zb (by simp [Yf,Yh,onB]),za fun _=>rfl,za fun _=>rfl,za fun _=>rfl⟩) (by simp [ze,Vg.look,SV.mapH,muL,XRE,XR,XRH,XRN,Yh])) ?_;rintro ⟨⟨y,a1,pr1⟩,hI⟩;simp only [YC];simp only [↓XC,X1,seval,X2,↓Ya,Yb,↓Yc,onB];by_cases hyz:y.r.cd=0
 ·have hI2:a1=(y.r.pos:Nat)∧OkM s y.r∧y.r.dp=x.r.dp+1∧x.r.dp<40∧(x.r.ev++[evO 3 7 oa og]) <+: y.r.ev∧y.r.bs=x.r.bs∧lsL s sb (coA s x.r.pos) x.r.ev.length y=R:=by
   rcases hI with h | h
   ·exact h.2
   ·exact absurd hyz h.1
  obtain ⟨hya,hy,hyd,hd40,hpre,hyb,hyR⟩:=hI2;subst hya;obtain ⟨hsk,HN⟩:=HS hd40;have hysz:=hy.sz;have hypos:=hy.pos;refine ⟨fun _=>?_,fun h'=>absurd hyz h'⟩;have hoA:Ok s (atR y.r (y.r.pos+1)):=⟨hy.cd,hypos,hy.dn,hy.bs,hy.dp,by simp only [atR];omega,hy.hd,hy.pf⟩
  have hA2:y.r.ev.length+1≤8 * (y.r.pos+1)+64:=by omega
  obtain ⟨v,hv⟩:∃ v,v=vlK s sb y.r.pos ((coA s x.r.pos:Nat):Int) true y:=⟨_,rfl⟩
  have hV:=sitem s y pr1 sb y.r.pos ((coA s x.r.pos:Nat):Int) (fun n i l x1 pr2 h1 h2 h3 h4=>HN n i l x1 pr2 h1 (by rw [h2];exact hyd) h3 h4) ⟨h6,hoA,hA2,hypos,rfl,by omega,by omega⟩;rw [←hv] at hV;refine Vq (hV) ?_;rintro z c ⟨a2,pr2,lo2,ha2,rfl,rfl⟩;simp only [↓XC,X1,seval,X2,↓Ya,Yb,↓Yc,onB,XM];by_cases hvz:v.r.cd=0
  ·have hvk:VlA s y.r (y.r.pos+1) v.r:=by have h:=hvz;rw [hv] at h ⊢;exact zw3 (by rw [hyd];exact hsk) hoA hA2 hypos h
   obtain ⟨e2,e3⟩:=ha2 hvz;subst e2 e3;refine ⟨fun _=>?_,fun h'=>absurd hvz h'⟩;have hvo:=hvk.ok;refine Vm (snext s v.r pr2 v.fr ⟨hs,hvz,hvo.pos⟩) ?_;simp only [↓XC,X1,seval,X2,↓Ya,Yb,↓Yc,onB,XM];obtain ⟨w,hw⟩:∃ w,w=nxK s v:=⟨_,rfl⟩
   rw [show nxR s v.r v.fr=w.r by rw [hw];exact zsk s v];have hwl:w.lt=v.r.pos:=by rw [hw,(zgo s v).2]
   have hmS:lsS s sb (coA s x.r.pos) y=w:=by unfold lsS;rw [←hv,if_neg (by simpa using hvz),hw]
   by_cases hwz:w.r.cd=0
   ·refine ⟨fun h'=>absurd hwz (by simpa using h'),fun _=>?_⟩;obtain ⟨v2,hEn⟩:=lsS_k (c:=(coA s x.r.pos)) (by rw [hyd];exact hsk) hy (by rw [hmS];exact hwz);rw [hmS] at hEn;have hv2:=hEn.ok;have hwp:w.r.pos≤s.length:=by rw [hEn.eq.1];exact qr s _ hv2.pos
    have hwev:w.r.ev=v2.ev:=by rw [hEn.eq.1];rfl
    have hwO:Ok s w.r:=by rw [hEn.eq.1];exact hv2.at (q8 s v2.pos) (qr s v2.pos hv2.pos)
    have hwsz:w.r.ev.length≤16777216:=Nat.le_trans (hwO.size hs) (by decide);have hwpre:(x.r.ev++[evO 3 7 oa og]) <+: w.r.ev:=by rw [hwev];exact hpre.trans hEn.pre
    have hwk:x.r.ev.length<w.r.ev.length:=by have:=hwpre.length_le;simp only [List.length_append,List.length_singleton] at this;omega
    have hwd:w.r.dp=x.r.dp+1:=by rw [hEn.eq.1];exact hEn.dp.trans hyd
    have hwb:w.r.bs=x.r.bs:=by rw [hEn.eq.1];exact hEn.bs.trans hyb
    refine ⟨by decide +kernel, ?_⟩;refine Vm (zc9 s w.r pr2 ⟨hs,hwp⟩) ?_;simp only [↓XC,X1,seval,X2,yj,kz,↓Ya,Yb,↓Yc,onB,XM];rw [zg s hwp];refine Chk.mk (fun h=>⟨⟨h,h⟩,hs⟩) fun _=>⟨fun h2=>?_,fun h2=>⟨by decide +kernel, ?_⟩⟩
    ·simp only [Bool.and_eq_true,Bool.not_eq_true',decide_eq_true_eq] at h2;have h2n:¬(jl s w.r.pos=true∨coA s w.r.pos<coA s x.r.pos∨(coA s w.r.pos=coA s x.r.pos∧zgq s w.r.pos=false)):=by rw [h2.1];simp only [Bool.false_eq_true,false_or];omega
     refine Vm (vg s w.r pr2 9 w.r.pos hwz) ?_;simp only [↓XC,X1,seval,X2,↓Ya,Yb,↓Yc,onB,XM];have eR:R=onB w (flt w.r 9 w.r.pos):=by rw [←hyR,lsL_9 hmS hwz h2n (by omega)]
     rw [eR];refine ⟨.tup [],(spC s ((onB w (flt w.r 9 w.r.pos)).r) ((w.r.pos:Nat):Int) pr2),⟨((w.r.pos:Nat):Int),pr2,fun h=>absurd h (by decide:¬((9:Int)=0)),rfl,rfl⟩, ?_⟩;exact Vf
    ·refine Vm (zc9 s w.r pr2 ⟨hs,hwp⟩) ?_;simp only [↓XC,X1,seval,X2,yj,kz,↓Ya,Yb,↓Yc,onB,XM];rw [zg s hwp];have hC2:(jl s w.r.pos||decide (((coA s w.r.pos:Nat):Int)<(coA s x.r.pos:Nat))||!zgq s w.r.pos)=decide (jl s w.r.pos=true∨coA s w.r.pos<coA s x.r.pos∨(coA s w.r.pos=coA s x.r.pos∧zgq s w.r.pos=false)):=by
      simp only [Bool.and_eq_false_iff,Bool.not_eq_false',decide_eq_false_iff_not] at h2;rw [Bool.eq_iff_iff];simp only [Bool.or_eq_true,decide_eq_true_eq,Bool.not_eq_true'];rcases h2 with h2 | h2
      ·simp [h2]
      ·constructor
       ·rintro ((h | h) | h)
        ·exact .inl h
        ·exact .inr (.inl (by omega))
        ·by_cases h9:coA s w.r.pos<coA s x.r.pos
         ·exact .inr (.inl h9)
         ·exact .inr (.inr ⟨by omega,h⟩)
       ·rintro (h | h | h)
        ·exact .inl (.inl h)
        ·exact .inl (.inr (by omega))
        ·exact .inr h.2
     rw [hC2];refine Chk.mk (fun h=>⟨⟨h,h⟩,hs⟩) fun _=>Chk.mk (fun h=>⟨⟨h,h⟩,hs,by omega,by omega⟩) fun _=>⟨fun h3=>?_,fun h3=>?_⟩
     ·have h3':=of_decide_eq_true h3;have eC:(if 40≤x.r.dp then (-2:Int) else if oa=[] then -1 else ((nmS x.r.ev x.r.dn x.r.bs).length:Nat))=(if ((atR w.r v.r.pos).ev.getD x.r.ev.length evz).anchor=[] then (-1:Int) else ((anI (List.take x.r.ev.length (atR w.r v.r.pos).ev) (atR w.r v.r.pos).bs).length:Nat)):=by obtain ⟨tl,htl⟩:=hwpre;rw [if_neg (by omega),show (atR w.r v.r.pos).ev=w.r.ev from rfl,show (atR w.r v.r.pos).bs=x.r.bs from hwb,←htl];simp [evO,nmS,List.getElem?_append_right]
      rw [eC];refine Vb (zud s (atR w.r v.r.pos) pr2 x.r.ev.length ⟨by show w.r.ev.length≤_;omega,hwO.dn,hwO.bs,hwk,by show w.r.bs≤_;rw [hwb];exact ho.bs,by show 0<w.r.dp;omega,hwO.dp⟩) ?_;simp only [↓XC,X1,seval,X2,↓Ya,Yb,↓Yc,onB,XM];have eR:R=dnK w x.r.ev.length:=by rw [←hyR,lsL_d hmS hwz (h3')]
      rw [eR];refine ⟨.tup [],(spC s ((dnK w x.r.ev.length).r) ((v.r.pos:Nat):Int) pr2),⟨((v.r.pos:Nat):Int),pr2,fun _=>⟨by rw [←hwl];rfl,rfl⟩,rfl,rfl⟩, ?_⟩;try simp only [YC,dnK,atR,shR,List.length_append,List.length_cons,List.length_nil,Nat.zero_add,hwl]
      exact Vf
     ·have h2n:=of_decide_eq_false h3;have hst:jl s w.r.pos=false:=by cases h9:jl s w.r.pos;rfl;exact absurd (.inl h9) h2n
      have h3n:¬coA s x.r.pos<coA s w.r.pos:=by intro h9;rw [hst,decide_eq_true (show ((coA s w.r.pos:Nat):Int)>(coA s x.r.pos:Nat) by omega)] at h2;cases h2
      have hql:=(zn8 hst).1;obtain ⟨hM2,h7,h8⟩:=hEn.next (q:=w.r.pos) hy (by decide) (by rw [hEn.eq.1];exact Nat.le_refl _) hql
      have hwe2:atR v2 w.r.pos=w.r:=by rw [hEn.eq.1];rfl
      rw [hwe2] at hM2;refine ⟨⟨(w,((w.r.pos:Nat):Int),pr2),.inl ⟨hwz,rfl,hM2,hwd,hd40,hwpre,hwb,by rw [←hyR];exact (lsL_n hmS hwz h2n h3n ⟨h7,hypos⟩).symm⟩⟩, ?_,(Ent.ren1 [0,1,2,3] (by decide) (by simp only [Yd];exact ⟨zb (by simp [Yf,Yh,onB]),za fun _=>rfl,za fun _=>rfl,za fun _=>rfl⟩) (by simp [ze,Vg.look,SV.mapH,muL,XRE,XR,XRH,XRN,Yh]))⟩;rw [if_pos hyz];show (if w.r.cd=0 then s.length+1-w.r.pos else 0)<_;rw [if_pos hwz];omega
   ·refine ⟨fun _=>?_,fun h'=>absurd (by simpa using h') hwz⟩;have eR:R=w:=by rw [←hyR,lsL_m hmS hwz]
    rw [eR];refine ⟨.tup [],(spC s ((w).r) ((w.r.pos:Nat):Int) pr2),⟨((w.r.pos:Nat):Int),pr2,fun h=>absurd h hwz,rfl,rfl⟩, ?_⟩;exact Vf
  ·refine ⟨fun h'=>absurd h' hvz,fun _=>⟨fun _=>?_,fun h'=>absurd (by simpa using h') hvz⟩⟩;have eR:R=v:=by rw [←hyR,lsL_m (w:=v) (by unfold lsS;rw [←hv,if_pos hvz]) hvz]
   rw [eR];refine ⟨.tup [],(spC s ((v).r) a2 pr2),⟨a2,pr2,fun h=>absurd h hvz,rfl,rfl⟩, ?_⟩;exact Vf
 ·refine ⟨fun h'=>absurd h' hyz,fun _=>?_⟩;have hyR:R=y:=by
   rcases hI with h | h
   ·exact absurd h.1 hyz
   ·exact h.2
  have eR:R=y:=hyR;rw [eR];refine ⟨.tup [],(spC s ((y).r) a1 pr1),⟨a1,pr1,fun h=>absurd h hyz,rfl,rfl⟩, ?_⟩;exact Vf
theorem smapB (s:Bs) (x:Rb) (pr:Int) (sb:Int→Bool→Bool→Rb→Rb) (oh:Bool) (oa og:Bs) (oe:Nat) (ha:Bool) (an tg:Bs) (fm pe:Nat) (HS:x.r.dp<40→zko s (x.r.dp+1) sb∧∀ (n:Int) (i l:Bool) (x1:Rb) (pr1:Int),Ok s x1.r→x1.r.dp=x.r.dp+1 → -1≤n→n≤60000→zhe Tryz.prog 226 s [.i .i64 n,.b i,.b l] pr1 x1.r (sb n i l x1)) (hp:s.length≤60000∧Ok s x.r∧(kyA s x.r.pos).2.2=true∧fm≤s.length∧(ha=false→x.r.pos=fm)):FnK Tryz.prog 259 1 [.ptr 0 0 0,.agg [.i .i64 0,.i .i64 0,.b false,.s [],.s oa,.s og,.i .i64 0,.i .i64 0],.agg [.i .i64 0,.i .i64 0,.b false,.s [],.s an,.s tg,.i .i64 0,.i .i64 0],.b ha,.i .i64 (fm:Nat)] (spC s (x.r) ((x.r).pos:Nat) pr) (fun z c=>∃ (a pr':Int),(((mpK s sb (⟨oh,oa,og,oe⟩:Pp) (⟨ha,an,tg,pe⟩:Pp) fm x)).r.cd=0→a=((((mpK s sb (⟨oh,oa,og,oe⟩:Pp) (⟨ha,an,tg,pe⟩:Pp) fm x)).r.pos:Nat):Int)∧((mpK s sb (⟨oh,oa,og,oe⟩:Pp) (⟨ha,an,tg,pe⟩:Pp) fm x)).fr=true)∧z=.tup []∧c=(spC s (((mpK s sb (⟨oh,oa,og,oe⟩:Pp) (⟨ha,an,tg,pe⟩:Pp) fm x)).r) a pr')):=by
 refine HQx (zan.c zal.d) 140 [[0,3,4,6,7],[0,3,4,6,7,10],[0,3,4,6,7,10,27],[],[0,3,7,10,11],[0,3,7,10,11,38],[0,7,10,11],[0,7,10,11,47],[0,7,10,11,12],[0,7,10,11,12,13],[0,7,10,11,12,13,59],[0,7,10,11,13],[0,7,10,11,13,67],[0,7,10,11,13,82],[0,11],[],[0,7,10,11,100],[],[0,3,7,10,11],[0,3,7,10,11,16],[0,3,7,10,11,133],[0,3,7,10,11]] Tryz.func259 [] (fun _=>true) [] [(13,[],[],.q1 0 (.alt 1 (.q1 2 (.q1 3 (.q1 4 (.q1 5 (.q1 7 (qd (.q1 12 (.q0 6 [6,11,13,14] (.q0 10 [10,11,13,14] (.seq [11,13,14])))))))))) .fin)),(16,[],[],qa (.q1 9 (.q0 3 [3,8,10] (.q0 7 [7,8,10] (.seq [8,10]))))),(19,[],[],qa (.q0 3 [3] (.q0 7 [7] (.alt 8 (qg .fin) .fin))))] ?_;simp only [↓XC,X1,seval,X2,yj,jq,↓Ya,Yb,↓Yc,onB];obtain ⟨h6,ho,hk,hfm,hft⟩:=hp;have hs:s.length≤1048576:=by omega
 have hpos:=ho.pos;have hcd:=ho.cd;have hsz:=ho.size hs;have hl:x.r.pos<s.length:=by have:=xo hpos hk;omega
 have hcl:coA s fm≤60000:=by unfold coA;omega
 have hf:(if ha=true then fm else x.r.pos)=fm:=by
  cases ha
  ·rw [if_neg (by decide)];exact hft rfl
  ·rw [if_pos rfl]
 obtain ⟨R,hR⟩:∃ R,R=(mpK s sb (⟨oh,oa,og,oe⟩:Pp) (⟨ha,an,tg,pe⟩:Pp) fm x):=⟨_,rfl⟩
 rw [←hR];rw [zg s hfm];refine Chk.mk hs fun _=>⟨fun h=>?_,fun h=>?_⟩
 ·have h40:x.r.dp=40:=by omega
  refine Vm (vg s x.r pr 12 fm hcd) ?_;simp only [↓XC,X1,seval,X2,↓Ya,Yb,↓Yc,onB,XM];have eR:R=onB x (flt x.r 12 fm):=by rw [hR];unfold mpK;rw [hf,show opR x.r 4 7 (⟨oh,oa,og,oe⟩:Pp) fm=flt x.r 12 fm by (unfold opR;rw [if_pos (by omega)]),if_pos (by simp [flt])]
  rw [eR];refine ⟨.tup [],(spC s ((onB x (flt x.r 12 fm)).r) ((x.r.pos:Nat):Int) pr),⟨((x.r.pos:Nat):Int),pr,fun h=>absurd h (by decide:¬((12:Int)=0)),rfl,rfl⟩, ?_⟩;exact Vf
 have h40:¬40≤x.r.dp:=by have:=ho.dp;omega
 refine Vb (sopen s x.r pr 0 0 [] oa og 4 7 ⟨by omega,ho.dn,ho.bs,ho.cd,ho.dp⟩) ?_;simp only [↓XC,X1,seval,X2,↓Ya,Yb,↓Yc,onB,XM];obtain ⟨ro,hro⟩:∃ ro,ro=opR x.r 4 7 (⟨oh,oa,og,oe⟩:Pp) fm:=⟨_,rfl⟩
 rw [show opR x.r 4 7 (⟨false,oa,og,0⟩:Pp) x.r.pos=ro by rw [hro];unfold opR;rw [if_neg h40,if_neg h40]];have hI0:(ro.cd=0∧((ro.pos:Nat):Int)=(ro.pos:Nat)∧OkM s ro∧ro.dp=x.r.dp+1∧x.r.dp<40∧(x.r.ev++[evO 4 7 oa og]) <+: ro.ev∧ro.bs=x.r.bs∧(kyA s ro.pos).2.2=true∧mpL s sb (coA s fm) x.r.ev.length (⟨ha,an,tg,pe⟩:Pp) (onB x ro)=R)∨(ro.cd≠0∧R=(onB x ro)):=by
  by_cases hz:ro.cd=0
  ·obtain ⟨hM,e1,e2,e3,e4,e5,e6⟩:=zqa ho hl (show (opR x.r 4 7 (⟨oh,oa,og,oe⟩:Pp) fm).cd=0 by rw [←hro];exact hz);rw [←hro] at hM e1 e2 e3 e4 e5;exact .inl ⟨hz,rfl,hM,e5,e6,by rw [e2];exact List.prefix_refl _,e4,by rw [e1];exact hk,by rw [hR];unfold mpK;rw [hf,←hro,if_neg (by simpa using hz)]⟩
  ·exact .inr ⟨hz,by rw [hR];unfold mpK;rw [hf,←hro,if_pos hz]⟩
 refine zl.of (ι:={y:(Pp×Rb)×Int×Int // (y.1.2.r.cd=0∧y.2.1=(y.1.2.r.pos:Nat)∧OkM s y.1.2.r∧y.1.2.r.dp=x.r.dp+1∧x.r.dp<40∧(x.r.ev++[evO 4 7 oa og]) <+: y.1.2.r.ev∧y.1.2.r.bs=x.r.bs∧(kyA s y.1.2.r.pos).2.2=true∧mpL s sb (coA s fm) x.r.ev.length y.1.1 y.1.2=R)∨(y.1.2.r.cd≠0∧R=y.1.2)}) (fun y=>⟨[(0,.ptr 0 0 0),(3,.b y.1.1.1.has),(7,.ptr 5 0 0),(10,.i .i64 ((coA s fm:Nat):Int)),(11,.i .i64 (if 40≤x.r.dp then (-2:Int) else if oa=[] then -1 else ((nmS x.r.ev x.r.dn x.r.bs).length:Nat)))],[some (.blk false [.s s,.i .i64 y.1.2.1,.slc 1 0 (y.1.1.2.r).ev.length,.i .i64 (y.1.1.2.r).cd,.i .i64 ((y.1.1.2.r).pl:Nat),.i .i64 ((y.1.1.2.r).dp:Nat),.slc 2 0 (nmS (y.1.1.2.r).ev (y.1.1.2.r).dn (y.1.1.2.r).bs).length,.slc 3 0 (y.1.1.2.r).hd.length,.i .i64 y.1.2.2]),some (.row false 8 (y.1.1.2.r).ev.length (zu evc evz (y.1.1.2.r).ev)),some (.row false 2 (nmS (y.1.1.2.r).ev (y.1.1.2.r).dn (y.1.1.2.r).bs).length (zu nac ([],false) (nmS (y.1.1.2.r).ev (y.1.1.2.r).dn (y.1.1.2.r).bs))),some (.row false 2 (y.1.1.2.r).hd.length (zu hdc hdz (y.1.1.2.r).hd)),some (.blk false [.i .i64 0,.i .i64 0,.b false,.s [],.s oa,.s og,.i .i64 0,.i .i64 0]),some (.blk false [.i .i64 0,.i .i64 0,.b false,.s [],.s y.1.1.1.an,.s y.1.1.1.tg,.i .i64 0,.i .i64 0])]⟩) (fun y=>if y.1.1.2.r.cd=0 then s.length+1-y.1.1.2.r.pos else 0) ⟨(((⟨ha,an,tg,pe⟩:Pp),onB x ro),((ro.pos:Nat):Int),pr),hI0⟩ (Ent.ren1 [0,1,2,3,4,5] (by decide) (by simp only [Yd];exact ⟨zb (by simp [Yf,Yh,onB]),za fun _=>rfl,za fun _=>rfl,za fun _=>rfl,zb (by simp [Yf]),zb (by simp [Yf])⟩) (by simp [ze,Vg.look,SV.mapH,muL,XRE,XR,XRH,XRN,Yh])) ?_;rintro ⟨⟨⟨own,y⟩,a1,pr1⟩,hI⟩;simp only [↓XC,X1,seval,X2,↓Ya,Yb,↓Yc,onB];obtain ⟨oha,oan,otg,oen⟩:=own;simp only at hI;by_cases hyz:y.r.cd=0
 ·have hI2:a1=(y.r.pos:Nat)∧OkM s y.r∧y.r.dp=x.r.dp+1∧x.r.dp<40∧(x.r.ev++[evO 4 7 oa og]) <+: y.r.ev∧y.r.bs=x.r.bs∧(kyA s y.r.pos).2.2=true∧mpL s sb (coA s fm) x.r.ev.length (⟨oha,oan,otg,oen⟩:Pp) y=R:=by
   rcases hI with h | h
   ·exact h.2
   ·exact absurd hyz h.1
  obtain ⟨hya,hy,hyd,hd40,hpre,hyb,hyk,hyR⟩:=hI2;subst hya;obtain ⟨hsk,HN⟩:=HS hd40;have hysz:=hy.sz;have hypos:=hy.pos;obtain ⟨k1,k2,k3,k4,k5⟩:=xo (Nat.le_of_lt hypos) hyk;refine ⟨fun _=>?_,fun h'=>absurd hyz h'⟩;refine Vb (skey s y.r pr1 0 0 [] oan otg oha ⟨hs,by omega,hy.dn,hy.bs,hy.cd,Nat.le_of_lt hypos,hyk⟩) ?_;simp only [↓XC,X1,seval,X2,↓Ya,Yb,↓Yc,onB,XM];obtain ⟨kr,hkr⟩:∃ kr,kr=kyR s y.r (⟨oha,oan,otg,oen⟩:Pp):=⟨_,rfl⟩
  rw [show kyR s y.r (⟨oha,oan,otg,0⟩:Pp)=kr from by rw [hkr];exact kyR_en.symm];refine ⟨fun h=>?_,fun h=>?_⟩
  ·have hkz:¬kr.cd=0:=by simpa using h
   have eR:R=onB y kr:=by rw [←hyR,zxm (w:=onB y kr) (by unfold mpS;rw [←hkr,if_pos hkz]) hkz]
   rw [eR];refine ⟨.tup [],(spC s ((onB y kr).r) (((kyA s y.r.pos).2.1.toNat+1:Nat):Int) pr1),⟨(((kyA s y.r.pos).2.1.toNat+1:Nat):Int),pr1,fun h=>absurd h hkz,rfl,rfl⟩, ?_⟩;exact Vf
  have hkz:kr.cd=0:=by simpa using h
  obtain ⟨ke,kq,ke1,ke2⟩:=kyR_k hy.cd (Nat.le_of_lt hypos) (show (kyR s y.r (⟨oha,oan,otg,oen⟩:Pp)).cd=0 by rw [←hkr];exact hkz);rw [←hkr] at ke1;have hoA:Ok s (atR kr ((kyA s y.r.pos).2.1.toNat+1)):=by rw [ke1];exact ⟨hy.cd,k3,by simp [xd,atR,zf,hy.dn],by simp only [xd,atR,zf,List.length_append];have:=hy.bs;omega,hy.dp,by simp only [xd,atR,zf,List.length_append,List.length_singleton];omega,hy.hd,hy.pf⟩
  have hA2:kr.ev.length+1≤8 * ((kyA s y.r.pos).2.1.toNat+1)+64:=by rw [ke1];simp only [xd,atR,zf,List.length_append,List.length_singleton];omega
  have hkd:kr.dp=x.r.dp+1:=by rw [ke1];exact hyd
  obtain ⟨v,hv⟩:∃ v,v=vlK s sb (kyA s y.r.pos).2.1.toNat ((coA s fm:Nat):Int) false (onB y kr):=⟨_,rfl⟩
  have hV:=sval s (onB y (atR kr ((kyA s y.r.pos).2.1.toNat+1))) pr1 sb (kyA s y.r.pos).2.1.toNat ((coA s fm:Nat):Int) (fun n i l x1 pr2 h1 h2 h3 h4=>HN n i l x1 pr2 h1 (by rw [h2];exact hkd) h3 h4) ⟨h6,hoA,hA2,k3,rfl,by omega,by omega⟩;rw [vlK_at,←hv] at hV;refine Vq (hV) ?_;rintro z c ⟨a2,pr2,lo2,ha2,rfl,rfl⟩;simp only [↓XC,X1,seval,X2,↓Ya,Yb,↓Yc,onB,XM];by_cases hvz:v.r.cd=0
  ·have hvk:VlA s kr ((kyA s y.r.pos).2.1.toNat+1) v.r:=by have h:=hvz;rw [hv] at h ⊢;exact zw3 (x:=onB y kr) (by show zko s kr.dp sb;rw [hkd];exact hsk) hoA hA2 k3 h
   obtain ⟨e2,e3⟩:=ha2 hvz;subst e2 e3;refine ⟨fun _=>?_,fun h'=>absurd hvz h'⟩;have hvo:=hvk.ok;refine Vm (snext s v.r pr2 v.fr ⟨hs,hvz,hvo.pos⟩) ?_;simp only [↓XC,X1,seval,X2,↓Ya,Yb,↓Yc,onB,XM];obtain ⟨w,hw⟩:∃ w,w=nxK s v:=⟨_,rfl⟩
   rw [show nxR s v.r v.fr=w.r by rw [hw];exact zsk s v];have hwl:w.lt=v.r.pos:=by rw [hw,(zgo s v).2]
   have hmS:mpS s sb (coA s fm) (⟨oha,oan,otg,oen⟩:Pp) y=w:=by unfold mpS;rw [←hkr,if_neg (by simpa using hkz),←hv,if_neg (by simpa using hvz),hw]
   by_cases hwz:w.r.cd=0
   ·refine ⟨fun h'=>absurd hwz (by simpa using h'),fun _=>?_⟩;obtain ⟨v2,hEn⟩:=mpS_k (c:=(coA s fm)) (own:=(⟨oha,oan,otg,oen⟩:Pp)) (by rw [hyd];exact hsk) hy hyk (by rw [hmS];exact hwz);rw [hmS] at hEn;have hv2:=hEn.ok;have hwp:w.r.pos≤s.length:=by rw [hEn.eq.1];exact qr s _ hv2.pos
    have hwev:w.r.ev=v2.ev:=by rw [hEn.eq.1];rfl
    have hwO:Ok s w.r:=by rw [hEn.eq.1];exact hv2.at (q8 s v2.pos) (qr s v2.pos hv2.pos)
    have hwsz:w.r.ev.length≤16777216:=Nat.le_trans (hwO.size hs) (by decide);have hwpre:(x.r.ev++[evO 4 7 oa og]) <+: w.r.ev:=by rw [hwev];exact hpre.trans hEn.pre
    have hwk:x.r.ev.length<w.r.ev.length:=by have:=hwpre.length_le;simp only [List.length_append,List.length_singleton] at this;omega
    have hwd:w.r.dp=x.r.dp+1:=by rw [hEn.eq.1];exact hEn.dp.trans hyd
    have hwb:w.r.bs=x.r.bs:=by rw [hEn.eq.1];exact hEn.bs.trans hyb
    refine ⟨by decide +kernel, ?_⟩;refine Vm (zc9 s w.r pr2 ⟨hs,hwp⟩) ?_;simp only [↓XC,X1,seval,X2,yj,↓Ya,Yb,↓Yc,onB,XM];rw [zg s hwp];refine Chk.mk (fun h=>⟨⟨h,h⟩,hs⟩) fun _=>⟨fun h2=>?_,fun h2=>⟨by decide +kernel,Chk.mk hs fun _=>⟨fun h3=>?_,fun h3=>?_⟩⟩⟩
    ·simp only [Bool.or_eq_true,decide_eq_true_eq,Int.ofNat_lt] at h2;have eC:(if 40≤x.r.dp then (-2:Int) else if oa=[] then -1 else ((nmS x.r.ev x.r.dn x.r.bs).length:Nat))=(if ((atR w.r v.r.pos).ev.getD x.r.ev.length evz).anchor=[] then (-1:Int) else ((anI (List.take x.r.ev.length (atR w.r v.r.pos).ev) (atR w.r v.r.pos).bs).length:Nat)):=by obtain ⟨tl,htl⟩:=hwpre;rw [if_neg (by omega),show (atR w.r v.r.pos).ev=w.r.ev from rfl,show (atR w.r v.r.pos).bs=x.r.bs from hwb,←htl];simp [evO,nmS,List.getElem?_append_right]
     rw [eC];refine Vb (zud s (atR w.r v.r.pos) pr2 x.r.ev.length ⟨by show w.r.ev.length≤_;omega,hwO.dn,hwO.bs,hwk,by show w.r.bs≤_;rw [hwb];exact ho.bs,by show 0<w.r.dp;omega,hwO.dp⟩) ?_;simp only [↓XC,X1,seval,X2,↓Ya,Yb,↓Yc,onB,XM];have eR:R=dnK w x.r.ev.length:=by rw [←hyR,mpL_d hmS hwz (h2)]
     rw [eR];refine ⟨.tup [],(spC s ((dnK w x.r.ev.length).r) ((v.r.pos:Nat):Int) pr2),⟨((v.r.pos:Nat):Int),pr2,fun _=>⟨by rw [←hwl];rfl,rfl⟩,rfl,rfl⟩, ?_⟩;try simp only [YC,dnK,atR,shR,List.length_append,List.length_cons,List.length_nil,Nat.zero_add,hwl]
     exact Vf
    ·have h2n:¬(jl s w.r.pos=true∨coA s w.r.pos<(coA s fm)):=by simp only [Bool.or_eq_false_iff,decide_eq_false_iff_not] at h2;rw [h2.1];simp only [Bool.false_eq_true,false_or];omega
     refine Vm (vg s w.r pr2 9 w.r.pos hwz) ?_;simp only [↓XC,X1,seval,X2,↓Ya,Yb,↓Yc,onB,XM];have eR:R=onB w (flt w.r 9 w.r.pos):=by rw [←hyR,mpL_9 hmS hwz h2n (by omega)]
     rw [eR];refine ⟨.tup [],(spC s ((onB w (flt w.r 9 w.r.pos)).r) ((w.r.pos:Nat):Int) pr2),⟨((w.r.pos:Nat):Int),pr2,fun h=>absurd h (by decide:¬((9:Int)=0)),rfl,rfl⟩, ?_⟩;exact Vf
    have h2n:¬(jl s w.r.pos=true∨coA s w.r.pos<(coA s fm)):=by simp only [Bool.or_eq_false_iff,decide_eq_false_iff_not] at h2;rw [h2.1];simp only [Bool.false_eq_true,false_or];omega
    have h3n:¬(coA s fm)<coA s w.r.pos:=by omega
    refine Vq (zo3 s w.r pr2 false ⟨hs,hwz,hwp,hwO.hd,hwO.pf⟩) ?_;rintro z c ⟨pr3,an3,tg3,ha3,hq,rfl,rfl⟩;simp only [↓XC,X1,seval,X2,jq,↓Ya,Yb,↓Yc,onB,XM];obtain ⟨q,hqd⟩:∃ q,q=prR s false w.r:=⟨_,rfl⟩
    have hqZ:prZ s false w.r=q:=by rw [hqd];rfl
    rw [hqZ] at hq ⊢;refine ⟨by decide +kernel,Chk.mk hs fun _=>?_⟩;by_cases hqz:q.cd=0
    ·simp only [decide_eq_true hqz];simp only [↓XC,X1,seval,X2,↓Ya,Yb,↓Yc,onB];obtain ⟨_,ean,etg,eha⟩:=hq hqz;subst ean etg eha;obtain ⟨pp,hpp⟩:∃ pp,pp=prP s false w.r:=⟨_,rfl⟩
     rw [←hpp];obtain ⟨qp,e9,l9,l10,_⟩:=xn (fl:=false) hwp hwz (show (prR s false w.r).cd=0 by rw [←hqd];exact hqz);rw [←hqd] at e9;have hqpos:q.pos≤s.length:=by rw [e9];exact l10
     have hqev:q.ev=w.r.ev:=by rw [e9];rfl
     rw [zg s hqpos];refine ⟨fun h5=>?_,fun h5=>?_⟩
     ·have hcF:¬(flt q 10 q.pos).cd=0:=(by decide:¬((10:Int)=0))
      refine Vm (vg s q pr3 10 q.pos hqz) ?_;simp only [↓XC,X1,seval,X2,↓Ya,Yb,↓Yc,onB,XM];refine ⟨⟨((pp,onB w (flt q 10 q.pos)),((q.pos:Nat):Int),pr3),.inr ⟨hcF, ?_⟩⟩, ?_,(Ent.ren1 [0,1,2,3,4,5] (by decide) (by simp only [Yd];exact ⟨zb (by simp [Yf,Yh,onB]),za fun _=>rfl,za fun _=>rfl,za fun _=>rfl,zb (by simp [Yf]),zb (by simp [Yf])⟩) (by simp [ze,Vg.look,SV.mapH,muL,XRE,XR,XRH,XRN,Yh]))⟩
      ·rw [←hyR,mpL_10 hmS hwz h2n h3n (by rw [←hqd];exact hqz) (by rw [←hqd];simpa using h5),hqd]
      ·rw [if_pos hyz];show (if (flt q 10 q.pos).cd=0 then s.length+1-q.pos else 0)<_;rw [if_neg hcF];omega
     ·have h5t:(kyA s q.pos).2.2=true:=by simpa using h5
      have hql:qp<s.length:=by rw [e9] at h5t;have h:=xo (show (atR w.r qp).pos≤s.length from l10) h5t;have h1:=h.2.2.1;have h2:=h.2.2.2.1;simp only [atR] at h1 h2;omega
      have hqe:q=atR v2 qp:=by rw [e9,hEn.eq.1];rfl
      obtain ⟨hM2,h7,h8⟩:=hEn.next (q:=qp) hy (by decide) (by rw [hEn.eq.1] at l9;exact l9) hql
      refine ⟨⟨((pp,onB w q),((q.pos:Nat):Int),pr3),.inl ⟨hqz,rfl, ?_, ?_,hd40, ?_, ?_,h5t, ?_⟩⟩, ?_,(Ent.ren1 [0,1,2,3,4,5] (by decide) (by simp only [Yd];exact ⟨zb (by simp [Yf,Yh,onB]),za fun _=>rfl,za fun _=>rfl,za fun _=>rfl,zb (by simp [Yf]),zb (by simp [Yf])⟩) (by simp [ze,Vg.look,SV.mapH,muL,XRE,XR,XRH,XRN,Yh]))⟩
      ·show OkM s q;rw [hqe];exact hM2
      ·show q.dp=_;rw [e9];exact hwd
      ·show _ <+: q.ev;rw [hqev];exact hwpre
      ·show q.bs=_;rw [e9];exact hwb
      ·show mpL s sb (coA s fm) x.r.ev.length pp (onB w q)=R;rw [←hyR,mpL_n hmS hwz h2n h3n (by rw [←hqd];exact hqz) (by rw [←hqd];exact h5t) ⟨by rw [←hqd,hqe];exact h7,hypos⟩,hqd,hpp]
      ·rw [if_pos hyz];show (if q.cd=0 then s.length+1-q.pos else 0)<_;rw [if_pos hqz,hqe];simp only [atR];omega
    ·simp only [decide_eq_false hqz];simp only [↓XC,X1,seval,X2,↓Ya,Yb,↓Yc,onB];refine ⟨⟨((⟨ha3,an3,tg3,0⟩,onB w q),((q.pos:Nat):Int),pr3),.inr ⟨hqz, ?_⟩⟩, ?_,(Ent.ren1 [0,1,2,3,4,5] (by decide) (by simp only [Yd];exact ⟨zb (by simp [Yf,Yh,onB]),za fun _=>rfl,za fun _=>rfl,za fun _=>rfl,zb (by simp [Yf]),zb (by simp [Yf])⟩) (by simp [ze,Vg.look,SV.mapH,muL,XRE,XR,XRH,XRN,Yh]))⟩
     ·rw [←hyR,mpL_p hmS hwz h2n h3n (by rw [←hqd];exact hqz),hqd]
     ·rw [if_pos hyz];show (if q.cd=0 then s.length+1-q.pos else 0)<_;rw [if_neg hqz];omega
   ·refine ⟨fun _=>?_,fun h'=>absurd (by simpa using h') hwz⟩;have eR:R=w:=by rw [←hyR,zxm hmS hwz]
    rw [eR];refine ⟨.tup [],(spC s ((w).r) ((w.r.pos:Nat):Int) pr2),⟨((w.r.pos:Nat):Int),pr2,fun h=>absurd h hwz,rfl,rfl⟩, ?_⟩;exact Vf
  ·refine ⟨fun h'=>absurd h' hvz,fun _=>⟨fun _=>?_,fun h'=>absurd (by simpa using h') hvz⟩⟩;have eR:R=v:=by rw [←hyR,zxm (w:=v) (by unfold mpS;rw [←hkr,if_neg (by simpa using hkz),←hv,if_pos hvz]) hvz]
   rw [eR];refine ⟨.tup [],(spC s ((v).r) a2 pr2),⟨a2,pr2,fun h=>absurd h hvz,rfl,rfl⟩, ?_⟩;exact Vf
 ·refine ⟨fun h'=>absurd h' hyz,fun _=>?_⟩;have hyR:R=y:=by
   rcases hI with h | h
   ·exact absurd h.1 hyz
   ·exact h.2
  have eR:R=y:=hyR;rw [eR];refine ⟨.tup [],(spC s ((y).r) a1 pr1),⟨a1,pr1,fun h=>absurd h hyz,rfl,rfl⟩, ?_⟩;exact Vf
theorem snodeR (s:Bs) (hs:s.length≤1048576):∀ (d:Nat) (r:Rd) (pr:Int),Ok s r→r.dp+d=40→zdi Tryz.prog 335 s [] pr r (noF s d r):=by
 intro d
 induction d with
 | zero=>
  intro r pr ho hd;refine snode s r pr id (fun r1 pr1 ha an tg pe h1 h2 hb=>?_) (fun r1 pr1 ha an tg pe h1 h2 hb=>?_) ⟨hs,ho⟩
  ·exact sseq s r1 pr1 id ha an tg pe (fun h=>by omega) ⟨hs,h1,zm hb (by decide)⟩
  ·exact smap s r1 pr1 (paR s id) ha an tg pe (fun h=>by omega) ⟨hs,h1,zm hb (by decide)⟩
 | succ d ih=>
  intro r pr ho hd;have hit:zj2 s (r.dp+1) (noF s d):=fun r1 h1 h2 h3=>zel d r1 h1 (by omega) h3;refine snode s r pr (noF s d) (fun r1 pr1 ha an tg pe h1 h2 hb=>?_) (fun r1 pr1 ha an tg pe h1 h2 hb=>?_) ⟨hs,ho⟩
  ·exact sseq s r1 pr1 (noF s d) ha an tg pe (fun h=>by rw [h2];exact ⟨hit,fun r2 pr2 k1 k2=>ih r2 pr2 k1 (by omega)⟩) ⟨hs,h1,zm hb (by decide)⟩
  ·exact smap s r1 pr1 (paR s (noF s d)) ha an tg pe (fun h=>by rw [h2];exact ⟨fun r2 k1 k2 k3=>zgm k1 (by rw [k2];exact hit) k3,fun r2 pr2 k1 k2=>spair s r2 pr2 (noF s d) (fun r3 pr3 m1 m2=>ih r3 pr3 m1 (by omega)) ⟨hs,k1⟩⟩) ⟨hs,h1,zm hb (by decide)⟩
theorem sbo91 (s:Bs) (hs:s.length≤1048576) (r:Rd) (pr:Int) (ha:Bool) (an tg:Bs) (pe:Nat) (ho:Ok s r) (h:byt s r.pos=91):zdi Tryz.prog 302 s [.agg [.i .i64 0,.i .i64 0,.b false,.s [],.s an,.s tg,.i .i64 0,.i .i64 0]] pr r (boS s r (⟨ha,an,tg,pe⟩:Pp)):=by
 have hl:r.pos<s.length:=zm h (by decide);have hdp:=ho.dp;unfold boS;rcases hd:40-r.dp with _ | d
 ·simp only;unfold boR;rw [if_pos h];exact sseq s r pr id ha an tg pe (fun h=>by omega) ⟨hs,ho,hl⟩
 ·have hit:zj2 s (r.dp+1) (noF s d):=fun r1 h1 h2 h3=>zel d r1 h1 (by omega) h3;simp only;unfold boR;rw [if_pos h];exact sseq s r pr (noF s d) ha an tg pe (fun h=>⟨hit,fun r2 pr2 k1 k2=>snodeR s hs d r2 pr2 k1 (by omega)⟩) ⟨hs,ho,hl⟩
theorem sbo123 (s:Bs) (hs:s.length≤1048576) (r:Rd) (pr:Int) (ha:Bool) (an tg:Bs) (pe:Nat) (ho:Ok s r) (h:byt s r.pos=123):zdi Tryz.prog 303 s [.agg [.i .i64 0,.i .i64 0,.b false,.s [],.s an,.s tg,.i .i64 0,.i .i64 0]] pr r (boS s r (⟨ha,an,tg,pe⟩:Pp)):=by
 have hl:r.pos<s.length:=zm h (by decide);have hdp:=ho.dp;unfold boS;rcases hd:40-r.dp with _ | d
 ·simp only;unfold boR;rw [if_neg (by omega),if_pos h];exact smap s r pr (paR s id) ha an tg pe (fun h=>by omega) ⟨hs,ho,hl⟩
 ·have hit:zj2 s (r.dp+1) (noF s d):=fun r1 h1 h2 h3=>zel d r1 h1 (by omega) h3;simp only;unfold boR;rw [if_neg (by omega),if_pos h];exact smap s r pr (paR s (noF s d)) ha an tg pe (fun h=>⟨fun r2 k1 k2 k3=>zgm k1 (by rw [k2];exact hit) k3,fun r2 pr2 k1 k2=>spair s r2 pr2 (noF s d) (fun r3 pr3 m1 m2=>snodeR s hs d r3 pr3 m1 (by omega)) ⟨hs,k1⟩⟩) ⟨hs,ho,hl⟩
theorem splain (s:Bs) (x:Rb) (pr:Int) (n:Int) (had:Bool) (oa og:Bs) (oe:Nat) (ha:Bool) (an tg:Bs) (fm pe:Nat) (R:Rb) (hR:R=(if had=true∧ha=true then (if (rsA s pe).2=true then onB x (flt x.r 10 (wh s pe)) else onB x (flt x.r 7 fm)) else scK s x (if had=true then (⟨had,oa,og,oe⟩:Pp) else (⟨ha,an,tg,pe⟩:Pp)) n)) (hp:s.length≤60000∧Ok s x.r ∧ -1≤n∧n≤60000∧fm≤s.length∧(had=true→ha=true→pr=((pe:Nat):Int)∧x.r.pos=wh s pe∧pe≤s.length)):FnK Tryz.prog 262 1 [.ptr 0 0 0,.i .i64 n,.agg [.i .i64 0,.i .i64 0,.b false,.s [],.s oa,.s og,.i .i64 0,.i .i64 0],.agg [.i .i64 0,.i .i64 0,.b false,.s [],.s an,.s tg,.i .i64 0,.i .i64 0],.b had,.b ha,.i .i64 (fm:Nat)] (spC s (x.r) ((x.r).pos:Nat) pr) (fun z c=>∃ (a pr':Int) (lo:Bool),((R).r.cd=0→a=(((R).r.pos:Nat):Int)∧lo=(R).fr)∧z=.b lo∧c=(spC s ((R).r) a pr')):=by
 refine HQx (ku.c zfg.d) 119 [[0,1,4,5,6,9,10],[0,1,4,5,6,9,10,26],[0,6,16],[0,6,39],[],[],[14],[0,1,4,5,9,17],[0,1,4,5,9,17,50],[0,1,4,5,17],[0,1,4,5,17,18],[],[0,1,4,5,17,18,60],[0,17,18,19,20,21],[0,17,18,19,20,21,82],[],[14],[0,17,18,19,20,22],[0,17,19,20,22,88],[0,17,19,20,22],[0,20],[],[14],[0,1,4,5,17,18,98],[],[0,1,4,5,17,104],[],[0,110],[14]] Tryz.func262 [.tmp 14] (fun _=>false) [10] [(2,[],[],qa (.q0 3 [3] (.q0 7 [7] (.alt 8 (qh .fin) .fin)))),(13,[],[],qa (.q1 8 (.q0 3 [3] (.q0 7 [7] (.alt 9 (.q1 10 (.q1 11 (.q1 12 (.q1 13 (.q1 14 (.q1 15 (.q1 16 .fin))))))) .fin)))))] ?_;simp only [↓XC,X1,seval,X2,wq,u7,↓Ya,Yb,↓Yc,onB,zp];obtain ⟨h6,ho,hn1,hn2,hfm,hpe⟩:=hp;have hs:s.length≤1048576:=by omega
 have hpos:=ho.pos;have hcd:=ho.cd;have hsz:=ho.size hs;refine ⟨fun h1=>?_,fun h1=>?_⟩
 ·simp only [Bool.and_eq_true] at h1;obtain ⟨hp1,hp2,hp3⟩:=hpe h1.1 h1.2;subst hp1;rw [zg s hp3];refine ⟨by decide +kernel,Chk.mk hs fun _=>⟨fun h2=>?_,fun h2=>?_⟩⟩
  ·refine Vm (vg s x.r ((pe:Nat):Int) 10 x.r.pos hcd) ?_;simp only [↓XC,X1,seval,X2,↓Ya,Yb,↓Yc,onB,zp,XM];have eR:R=onB x (flt x.r 10 x.r.pos):=by rw [hR,if_pos h1,if_pos h2,hp2]
   rw [eR];refine ⟨.b true,(spC s ((onB x (flt x.r 10 x.r.pos)).r) ((x.r.pos:Nat):Int) ((pe:Nat):Int)),⟨((x.r.pos:Nat):Int),((pe:Nat):Int),true,fun h=>absurd h (by decide:¬((10:Int)=0)),rfl,rfl⟩, ?_⟩;exact Vf
  ·refine Vm (vg s x.r ((pe:Nat):Int) 7 fm hcd) ?_;simp only [↓XC,X1,seval,X2,↓Ya,Yb,↓Yc,onB,zp,XM];have eR:R=onB x (flt x.r 7 fm):=by rw [hR,if_pos h1,if_neg (by rw [h2];simp)]
   rw [eR];refine ⟨.b true,(spC s ((onB x (flt x.r 7 fm)).r) ((x.r.pos:Nat):Int) ((pe:Nat):Int)),⟨((x.r.pos:Nat):Int),((pe:Nat):Int),true,fun h=>absurd h (by decide:¬((7:Int)=0)),rfl,rfl⟩, ?_⟩;exact Vf
 have h1n:¬(had=true∧ha=true):=fun h=>by rw [h.1,h.2] at h1;cases h1
 obtain ⟨p0,hp0⟩:∃ p0:Pp,p0=if had=true then (⟨had,oa,og,oe⟩:Pp) else (⟨ha,an,tg,pe⟩:Pp):=⟨_,rfl⟩
 rw [if_neg h1n,←hp0] at hR;have hph:(had||ha)=p0.has:=by rw [hp0];cases had<;>rfl
 have hpa:p0.an=if had=true then oa else an:=by rw [hp0];cases had<;>rfl
 have hpt:p0.tg=if had=true then og else tg:=by rw [hp0];cases had<;>rfl
 refine zav.of (ι:=Unit) (fun _=>⟨[(0,.ptr 0 0 0),(1,.i .i64 n),(4,.b had),(5,.b ha),(17,.ptr 4 0 0)],[some (.blk false [.s s,.i .i64 ((x.r).pos:Nat),.slc 1 0 (x.r).ev.length,.i .i64 (x.r).cd,.i .i64 ((x.r).pl:Nat),.i .i64 ((x.r).dp:Nat),.slc 2 0 (nmS (x.r).ev (x.r).dn (x.r).bs).length,.slc 3 0 (x.r).hd.length,.i .i64 pr]),some (.row false 8 (x.r).ev.length (zu evc evz (x.r).ev)),some (.row false 2 (nmS (x.r).ev (x.r).dn (x.r).bs).length (zu nac ([],false) (nmS (x.r).ev (x.r).dn (x.r).bs))),some (.row false 2 (x.r).hd.length (zu hdc hdz (x.r).hd)),some (.blk false [.i .i64 0,.i .i64 0,.b false,.s [],.s p0.an,.s p0.tg,.i .i64 0,.i .i64 0])]⟩) ?_ ?_
 ·simp only [↓XC,X1,seval,X2,↓Ya,Yb,↓Yc,onB,zp];refine ⟨fun h=>⟨(), ?_⟩,fun h=>⟨(), ?_⟩⟩
  ·rw [hpa,hpt,if_pos h,if_pos h];exact (Ent.ren1 [0,1,2,3,6] (by decide) (by simp only [Yd];exact ⟨zb (by simp [Yf,Yh,onB]),za fun _=>rfl,za fun _=>rfl,za fun _=>rfl,zb (by simp [Yf])⟩) (by simp [ze,Vg.look,SV.mapH,muL,XRE,XR,XRH,XRN,Yh]))
  ·rw [hpa,hpt,if_neg (by rw [h];simp),if_neg (by rw [h];simp)];exact (Ent.ren1 [0,1,2,3,6] (by decide) (by simp only [Yd];exact ⟨zb (by simp [Yf,Yh,onB]),za fun _=>rfl,za fun _=>rfl,za fun _=>rfl,zb (by simp [Yf])⟩) (by simp [ze,Vg.look,SV.mapH,muL,XRE,XR,XRH,XRN,Yh]))
 rintro ⟨⟩;simp only [↓XC,X1,seval,X2,↓Ya,Yb,↓Yc,onB,zp];refine Vm (un s x.r pr hs) ?_;simp only [↓XC,X1,seval,X2,u7,↓Ya,Yb,↓Yc,onB,zp,XM];simp only [by0 (show (0:Int)<124 by decide)];simp only [by0 (show (0:Int)<62 by decide)];simp only [by0 (show (0:Int)<91 by decide)];simp only [by0 (show (0:Int)<123 by decide)];refine ⟨fun h2=>⟨by decide +kernel,Chk.mk ⟨h6,hn1,hn2⟩ fun _=>?_⟩,fun h2=>⟨fun h3=>?_,fun h3=>⟨fun h4=>?_,fun h4=>?_⟩⟩⟩
 ·have h2':byt s x.r.pos=124∨byt s x.r.pos=62:=by simpa using h2
  rw [zg s hpos];have e0:R=if (liA s x.r.pos n).2.2≠0 then (⟨flt x.r (liA s x.r.pos n).2.2 (liA s x.r.pos n).2.1,false,x.lt⟩:Rb) else ⟨atR (yb x.r (if byt s x.r.pos=62 then 5 else 4) (liA s x.r.pos n).1 p0.an p0.tg) (liA s x.r.pos n).2.1,true,x.lt⟩:=by rw [hR];unfold scK;rw [if_pos h2']
  generalize liA s x.r.pos n=li at *;refine ⟨fun h3=>?_,fun h3=>⟨fun h4=>?_,fun h4=>?_⟩⟩
  ·have h3':¬li.2.2=0:=by simpa using h3
   refine Vm (vg s x.r pr li.2.2 li.2.1 hcd) ?_;simp only [↓XC,X1,seval,X2,↓Ya,Yb,↓Yc,onB,zp,XM];have eR:R=(⟨flt x.r li.2.2 li.2.1,false,x.lt⟩:Rb):=by rw [e0,if_pos h3']
   rw [eR];refine ⟨.b true,(spC s (((⟨flt x.r li.2.2 li.2.1,false,x.lt⟩:Rb)).r) ((x.r.pos:Nat):Int) pr),⟨((x.r.pos:Nat):Int),pr,true,fun h=>absurd h h3',rfl,rfl⟩, ?_⟩;exact Vf
  ·have h3':li.2.2=0:=by simpa using h3
   refine Vb (zg1 s x.r pr 0 0 [] p0.an p0.tg 5 li.1 ⟨by omega,ho.dn,ho.bs⟩) ?_;simp only [↓XC,X1,seval,X2,↓Ya,Yb,↓Yc,onB,zp,XM];have eR:R=(⟨atR (yb x.r 5 li.1 p0.an p0.tg) li.2.1,true,x.lt⟩:Rb):=by rw [e0,if_neg (by simpa using h3'),if_pos h4]
   rw [eR];refine ⟨.b true,(spC s (((⟨atR (yb x.r 5 li.1 p0.an p0.tg) li.2.1,true,x.lt⟩:Rb)).r) ((li.2.1:Nat):Int) pr),⟨((li.2.1:Nat):Int),pr,true,fun _=>⟨rfl,rfl⟩,rfl,rfl⟩, ?_⟩;try simp only [YC,ntB,ppz,ntR,yb,zf,atR,onB,List.length_append,List.length_cons,List.length_nil,Nat.zero_add]
   exact Vf
  ·have h3':li.2.2=0:=by simpa using h3
   refine Vb (zg1 s x.r pr 0 0 [] p0.an p0.tg 4 li.1 ⟨by omega,ho.dn,ho.bs⟩) ?_;simp only [↓XC,X1,seval,X2,↓Ya,Yb,↓Yc,onB,zp,XM];have eR:R=(⟨atR (yb x.r 4 li.1 p0.an p0.tg) li.2.1,true,x.lt⟩:Rb):=by rw [e0,if_neg (by simpa using h3'),if_neg h4]
   rw [eR];refine ⟨.b true,(spC s (((⟨atR (yb x.r 4 li.1 p0.an p0.tg) li.2.1,true,x.lt⟩:Rb)).r) ((li.2.1:Nat):Int) pr),⟨((li.2.1:Nat):Int),pr,true,fun _=>⟨rfl,rfl⟩,rfl,rfl⟩, ?_⟩;try simp only [YC,ntB,ppz,ntR,yb,zf,atR,onB,List.length_append,List.length_cons,List.length_nil,Nat.zero_add]
   exact Vf
 ·have hN:=sbo91 s hs x.r pr p0.has p0.an p0.tg p0.en ho h3;obtain ⟨t,ht⟩:∃ t,t=boS s x.r p0:=⟨_,rfl⟩
  rw [show boS s x.r (⟨p0.has,p0.an,p0.tg,p0.en⟩:Pp)=t from ht.symm] at hN;unfold zdi spC at hN;refine Vq (hN) ?_;rintro z c ⟨a2,pr2,ha2,rfl,rfl⟩;simp only [↓XC,X1,seval,X2,↓Ya,Yb,↓Yc,onB,zp,XM];have eR:R=(⟨t,false,x.lt⟩:Rb):=by rw [hR,scK_bo (.inl h3),ht]
  rw [eR];refine ⟨.b false,(spC s (((⟨t,false,x.lt⟩:Rb)).r) a2 pr2),⟨a2,pr2,false,fun h=>⟨ha2 h,rfl⟩,rfl,rfl⟩, ?_⟩;exact Vf
 ·have hN:=sbo123 s hs x.r pr p0.has p0.an p0.tg p0.en ho h4;obtain ⟨t,ht⟩:∃ t,t=boS s x.r p0:=⟨_,rfl⟩
  rw [show boS s x.r (⟨p0.has,p0.an,p0.tg,p0.en⟩:Pp)=t from ht.symm] at hN;unfold zdi spC at hN;refine Vq (hN) ?_;rintro z c ⟨a2,pr2,ha2,rfl,rfl⟩;simp only [↓XC,X1,seval,X2,↓Ya,Yb,↓Yc,onB,zp,XM];have eR:R=(⟨t,false,x.lt⟩:Rb):=by rw [hR,scK_bo (.inr h4),ht]
  rw [eR];refine ⟨.b false,(spC s (((⟨t,false,x.lt⟩:Rb)).r) a2 pr2),⟨a2,pr2,false,fun h=>⟨ha2 h,rfl⟩,rfl,rfl⟩, ?_⟩;exact Vf
 have h2':¬(byt s x.r.pos=124∨byt s x.r.pos=62):=by intro h;rcases h with h | h<;>rw [h] at h2<;>simp at h2
 have eK:=scK_x (p:=p0) (n:=n) h2' (fun h=>h.elim h3 h4);rw [←hR] at eK;rw [hph];refine Vb (ze6 s x.r pr 0 0 [] p0.an p0.tg p0.has n false ⟨hs,by omega,ho.dn,ho.bs,hcd,hpos⟩) ?_;simp only [↓XC,X1,seval,X2,↓Ya,Yb,↓Yc,onB,zp,XM];refine ⟨fun h5=>?_,fun h5=>?_⟩
 ·obtain ⟨t,ht⟩:∃ t,t=scX s x.r (⟨p0.has,p0.an,p0.tg,0⟩:Pp) n false:=⟨_,rfl⟩
  rw [←ht];have eR:R=(⟨t,false,x.lt⟩:Rb):=by rw [eK,if_pos h5,ht]
  rw [eR];refine ⟨.b false,(spC s (((⟨t,false,x.lt⟩:Rb)).r) ((t.pos:Nat):Int) pr),⟨((t.pos:Nat):Int),pr,false,fun h=>⟨rfl,rfl⟩,rfl,rfl⟩, ?_⟩;exact Vf
 ·rw [scX_no h5];refine Vm (vg s x.r pr 10 x.r.pos hcd) ?_;simp only [↓XC,X1,seval,X2,↓Ya,Yb,↓Yc,onB,zp,XM];have eR:R=(⟨flt x.r 10 x.r.pos,false,x.lt⟩:Rb):=by rw [eK,if_neg (by rw [h5];simp)]
  rw [eR];refine ⟨.b false,(spC s (((⟨flt x.r 10 x.r.pos,false,x.lt⟩:Rb)).r) ((x.r.pos:Nat):Int) pr),⟨((x.r.pos:Nat):Int),pr,false,fun h=>absurd h (by decide:¬((10:Int)=0)),rfl,rfl⟩, ?_⟩;exact Vf
end Go.T
end
