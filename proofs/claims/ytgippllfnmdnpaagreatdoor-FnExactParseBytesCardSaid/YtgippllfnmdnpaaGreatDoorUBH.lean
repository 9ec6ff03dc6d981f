/- Own text: part UBH. -/
import Derived.Test.YtgippllfnmdnpaaGreatDoorUBG
set_option linter.all false
section
namespace Go.T
variable [Go.Vg.Glob] [Go.Vg.GlobTabs 0 1]
open Go.Proofs Go.Vg Go.RowKit Go.TT Go.Pl
set_option maxRecDepth 10000
set_option maxHeartbeats 4000000
theorem sseq (s:Bs) (r:Rd) (pr:Int) (it:Rd→Rd) (ha:Bool) (an tg:Bs) (pe:Nat) (HI:r.dp<40→zj2 s (r.dp+1) it∧∀ (r1:Rd) (pr1:Int),Ok s r1→r1.dp=r.dp+1→zdi Tryz.prog 335 s [] pr1 r1 (it r1)) (hp:s.length≤1048576∧Ok s r∧r.pos<s.length):FnK Tryz.prog 302 1 [.ptr 0 0 0,.agg [.i .i64 0,.i .i64 0,.b false,.s [],.s an,.s tg,.i .i64 0,.i .i64 0]] (spC s (r) ((r).pos:Nat) pr) (fun z c=>∃ (a pr':Int),(((coR s it 93 3 r (⟨ha,an,tg,pe⟩:Pp))).cd=0→a=((((coR s it 93 3 r (⟨ha,an,tg,pe⟩:Pp))).pos:Nat):Int))∧z=.tup []∧c=(spC s ((coR s it 93 3 r (⟨ha,an,tg,pe⟩:Pp))) a pr')):=by
 refine HQx pn 68 [[0,3],[0,4],[0,4],[0,4,23],[0,4,26],[0,4],[],[0,4],[0,4,48],[0,4,51],[0,4],[0,4,61],[0,4]] Tryz.func302 [] (fun i=>i==3||i==8) [] [] ?_;simp only [↓XC,X1,seval,X2,↓Ya,Yb];obtain ⟨hs,ho,hlt⟩:=hp;have hsz:=ho.size hs;refine Vb (sopen s r pr 0 0 [] an tg 3 6 ⟨by omega,ho.dn,ho.bs,ho.cd,ho.dp⟩) ?_;simp only [↓XC,X1,seval,X2,↓Ya,Yb,XM];obtain ⟨ro,hro⟩:∃ ro,ro=opR r 3 6 (⟨false,an,tg,0⟩:Pp) r.pos:=⟨_,rfl⟩
 have hro':ro=opR r 3 6 (⟨ha,an,tg,pe⟩:Pp) r.pos:=hro;have hrp:ro.pos=r.pos:=by rw [hro];unfold opR;split<;>rfl
 rw [←hro,hrp];obtain ⟨R,hR⟩:∃ R,R=coR s it 93 3 r (⟨ha,an,tg,pe⟩:Pp):=⟨_,rfl⟩
 rw [←hR];have hC:R=if ro.cd≠0 then ro else clL s it 93 r.ev.length (atR ro (r.pos+1)):=by rw [hR,hro'];rfl
 refine CR fun _=>?_;have hx0:∃ x0:Rd,(x0.ev=ro.ev∧x0.cd=ro.cd∧x0.pl=ro.pl∧x0.dp=ro.dp∧x0.dn=ro.dn∧x0.bs=ro.bs∧x0.hd=ro.hd)∧((x0.cd=0∧((r.pos:Int)+1)=(x0.pos:Nat)∧Ok s x0∧x0.dp=r.dp+1∧r.dp<40∧(r.ev++[evO 3 6 an tg]) <+: x0.ev∧x0.bs=r.bs∧clL s it 93 r.ev.length x0=R)∨(x0.cd≠0∧R=x0)):=by
  by_cases hz:ro.cd=0
  ·rw [hro] at hz;obtain ⟨e,hd⟩:=zgn hz;rw [if_neg (by rw [hro];simpa using hz),hro] at hC;have h9:=ho.sz;have h8:=ho.bs;refine ⟨atR ro (r.pos+1),⟨rfl,rfl,rfl,rfl,rfl,rfl,rfl⟩,.inl ?_⟩;rw [hro];refine ⟨hz,by simp [atR], ?_,by rw [e];rfl,hd,by rw [e];exact List.prefix_refl _,by rw [e];rfl,hC.symm⟩;rw [e];exact ⟨ho.cd,hlt,by simp [atR,zf,ho.dn],by simp only [atR,zf,List.length_append];omega,by simp only [atR];omega,by simp only [atR,zf,List.length_append,List.length_singleton];omega,ho.hd,ho.pf⟩
  ·exact ⟨ro,⟨rfl,rfl,rfl,rfl,rfl,rfl,rfl⟩,.inr ⟨hz,by rw [hC,if_pos hz]⟩⟩
 obtain ⟨x0,⟨e1,e2,e3,e4,e5,e6,e7⟩,hI0⟩:=hx0;rw [←e1,←e2,←e3,←e4,←e5,←e6,←e7];refine zl.of (ι:={x:Rd×Int×Int // (x.1.cd=0∧x.2.1=(x.1.pos:Nat)∧Ok s x.1∧x.1.dp=r.dp+1∧r.dp<40∧(r.ev++[evO 3 6 an tg]) <+: x.1.ev∧x.1.bs=r.bs∧clL s it 93 r.ev.length x.1=R)∨(x.1.cd≠0∧R=x.1)}) (fun x=>⟨[(0,.ptr 0 0 0),(4,.i .i64 (if 40≤r.dp then (-2:Int) else if an=[] then -1 else ((nmS r.ev r.dn r.bs).length:Nat)))],(spC s (x.1.1) x.1.2.1 x.1.2.2)⟩) (fun x=>if x.1.1.cd=0 then s.length+1-x.1.1.pos else 0) ⟨(x0,(r.pos:Int)+1,pr),hI0⟩ (Ent.ren1 [0,1,2,3] (by decide) (by simp only [Yd];exact ⟨zb (by simp [Yf,Yh]),za fun _=>rfl,za fun _=>rfl,za fun _=>rfl⟩) (by simp [ze,Vg.look,SV.mapH,muL,XRE,XR,XRH,XRN,Yh])) ?_;rintro ⟨⟨x,a1,pr1⟩,hI⟩;simp only [YC];simp only [↓XC,X1,seval,X2];by_cases hcx:x.cd=0
 ·have hI2:x.cd=0∧a1=(x.pos:Nat)∧Ok s x∧x.dp=r.dp+1∧r.dp<40∧(r.ev++[evO 3 6 an tg]) <+: x.ev∧x.bs=r.bs∧clL s it 93 r.ev.length x=R:=by
   rcases hI with h | h
   ·exact h
   ·exact absurd hcx h.1
  obtain ⟨_,hxa,hx,hxd,hd40,hpre,hxb,hxc⟩:=hI2;subst hxa;obtain ⟨hit,HN⟩:=HI hd40;have hsz:=hx.size hs;simp only [decide_eq_true hcx];simp only [↓XC,X1,seval,X2,↓Ya,Yb];refine Vm (sgap s x pr1 ⟨hs,hcx,hx.pos⟩) ?_;simp only [↓XC,X1,seval,X2,↓Ya,Yb,XM];obtain ⟨g,hg⟩:∃ g,g=yq s x:=⟨_,rfl⟩
  rw [←hg];refine ⟨fun hgz=>?_,fun hgz=>?_⟩
  ·have hgz':(yq s x).cd=0:=by rw [←hg];exact hgz
   have hgo:Ok s g:=by rw [hg];exact hx.gap hgz'
   have hgsz:=hgo.size hs;obtain ⟨e9,hp9⟩:=wo hgz';have hgp:g.pos<s.length:=by rw [hg,e9];exact hp9
   have hgd:g.dp=r.dp+1:=by rw [hg,e9];exact hxd
   have hge:g.ev=x.ev:=by rw [hg,e9];rfl
   have hgb:g.bs=r.bs:=by rw [hg,e9];exact hxb
   obtain ⟨tl,htl⟩:=hpre;refine Vm (un s g pr1 hs) ?_;simp only [↓XC,X1,seval,X2,↓Ya,Yb,XM];simp only [by0 (show (0:Int)<93 by decide)];refine ⟨fun h2=>CR fun _=>?_,fun h2=>?_⟩
   ·have hN:(if 40≤r.dp then (-2:Int) else if an=[] then -1 else ((nmS r.ev r.dn r.bs).length:Nat))=(if ((atR g (g.pos+1)).ev.getD r.ev.length evz).anchor=[] then (-1:Int) else ((anI (List.take r.ev.length (atR g (g.pos+1)).ev) (atR g (g.pos+1)).bs).length:Nat)):=by rw [if_neg (by omega),show (atR g (g.pos+1)).ev=x.ev from hge,show (atR g (g.pos+1)).bs=r.bs from hgb,←htl];simp [evO,nmS,List.getElem?_append_right]
    rw [hN];refine Vb (zud s (atR g (g.pos+1)) pr1 r.ev.length ⟨by show g.ev.length≤_;omega,hgo.dn,hgo.bs,by show r.ev.length<g.ev.length;rw [hge,←htl];simp,by show g.bs≤_;rw [hgb];exact ho.bs,by show 0<g.dp;omega,hgo.dp⟩) ?_;simp only [↓XC,X1,seval,X2,↓Ya,Yb,XM];have eR:R=shR (atR g (g.pos+1)) r.ev.length:=by rw [←hxc,zfv hgz' (by rw [←hg];exact h2),←hg]
    rw [eR];refine ⟨.tup [],(spC s (shR (atR g (g.pos+1)) r.ev.length) (((shR (atR g (g.pos+1)) r.ev.length).pos:Nat):Int) pr1),⟨(((shR (atR g (g.pos+1)) r.ev.length).pos:Nat):Int),pr1,fun _=>rfl,rfl,rfl⟩, ?_⟩;exact Vf
   ·obtain ⟨t,ht⟩:∃ t,t=it g:=⟨_,rfl⟩
    have hN:=HN g pr1 hgo hgd;rw [←ht] at hN;unfold zdi spC at hN;refine Vq (hN) ?_;rintro z c ⟨a2,pr2,ha2,rfl,rfl⟩;simp only [↓XC,X1,seval,X2,↓Ya,Yb,XM];by_cases htz:t.cd=0
    ·have ha2':=ha2 htz;subst ha2';have htz':(it (yq s x)).cd=0:=by rw [←hg,←ht];exact htz
     have hst:=hit g hgo hgd (by rw [←ht];exact htz);rw [←ht] at hst;have hto:=hst.ok;simp only [decide_eq_true htz];simp only [↓XC,X1,seval,X2,↓Ya,Yb];refine Vm (sgap s t pr2 ⟨hs,htz,hto.pos⟩) ?_;simp only [↓XC,X1,seval,X2,↓Ya,Yb,XM];obtain ⟨g2,hg2⟩:∃ g2,g2=yq s t:=⟨_,rfl⟩
     have hg2':g2=yq s (it (yq s x)):=by rw [hg2,ht,hg]
     rw [←hg2];refine ⟨fun h=>?_,fun h=>?_⟩
     ·have h2z:¬g2.cd=0:=by simpa using h
      have eR:R=g2:=by rw [←hxc,zm2 hgz' (by rw [←hg];exact h2) htz' (by rw [←hg2'];exact h2z),←hg2']
      rw [eR];refine ⟨.tup [],(spC s (g2) ((g2.pos:Nat):Int) pr2),⟨((g2.pos:Nat):Int),pr2,fun _=>rfl,rfl,rfl⟩, ?_⟩;exact Vf
     have h2z:g2.cd=0:=by simpa using h
     have h2z':(yq s (it (yq s x))).cd=0:=by rw [←hg2'];exact h2z
     have hg2o:Ok s g2:=by rw [hg2];exact hto.gap (by rw [←hg2];exact h2z)
     have hg2p:g2.pos<s.length:=by obtain ⟨e9,h9⟩:=wo (s:=s) (r:=t) (by rw [←hg2];exact h2z);rw [hg2,e9];exact h9
     have hcm:(cmR s g2 93).cd=0→∀ t2,t2=cmR s g2 93→(t2.cd=0∧Ok s t2∧t2.dp=r.dp+1∧(r.ev++[evO 3 6 an tg]) <+: t2.ev∧t2.bs=r.bs∧clL s it 93 r.ev.length t2=R)∧x.pos<t2.pos∧t2.pos≤s.length:=fun hz t2 ht2=>by
      have ht2':t2=cmR s (yq s (it (yq s x))) 93:=by rw [ht2,hg2']
      have h3z:t2.cd=0:=by rw [ht2];exact hz
      have hrd:=zch hit hx hxd hgz' htz' h2z' (by rw [←ht2'];exact h3z);rw [←ht2'] at hrd;have hlt3:=hrd.lt;have hpo3:=hrd.ok.pos;refine ⟨⟨h3z,hrd.ok,hrd.dp.trans hxd, ?_,hrd.bs.trans hxb, ?_⟩,hlt3,hpo3⟩
      ·exact List.IsPrefix.trans ⟨tl,htl⟩ hrd.pre
      ·rw [←hxc,zm1 hgz' (by rw [←hg];exact h2) htz' h2z' ⟨by rw [←ht2'];exact h3z,by rw [←ht2'];exact hlt3,by omega⟩,←ht2']
     refine Vm (un s g2 pr2 hs) ?_;simp only [↓XC,X1,seval,X2,↓Ya,Yb,XM];simp only [by0 (show (0:Int)<44 by decide)];refine ⟨fun h44=>CR fun _=>?_,fun h44=>?_⟩
     ·have e:cmR s g2 93=atR g2 (g2.pos+1):=by unfold cmR;rw [if_pos h44]
      obtain ⟨⟨k1,k2,k3,k4,k5,k6⟩,k7,k8⟩:=hcm (by rw [e];exact h2z) _ e.symm;refine ⟨⟨(atR g2 (g2.pos+1),((g2.pos+1:Nat):Int),pr2),.inl ⟨k1,rfl,k2,k3,hd40,k4,k5,k6⟩⟩, ?_, ?_⟩
      ·rw [if_pos hcx];show (if (atR g2 (g2.pos+1)).cd=0 then s.length+1-(g2.pos+1) else 0)<_;rw [if_pos k1];have k7':x.pos<g2.pos+1:=k7;omega
      ·exact (Ent.ren1 [0,1,2,3] (by decide) (by simp only [Yd];exact ⟨zb (by simp [Yf,Yh]),za fun _=>rfl,za fun _=>rfl,za fun _=>rfl⟩) (by simp [ze,Vg.look,SV.mapH,muL,XRE,XR,XRH,XRN,Yh]))
     refine Vm (un s g2 pr2 hs) ?_;simp only [↓XC,X1,seval,X2,↓Ya,Yb,XM];simp only [by0 (show (0:Int)<93 by decide)];refine ⟨fun h=>?_,fun h=>?_⟩
     ·have hc:¬byt s g2.pos=93:=by simpa using h
      have e:cmR s g2 93=flt g2 11 g2.pos:=by unfold cmR;rw [if_neg h44,if_neg hc]
      have hz:¬(cmR s g2 93).cd=0:=by rw [e];exact (by decide:¬((11:Int)=0))
      refine Vm (vg s g2 pr2 11 g2.pos h2z) ?_;simp only [↓XC,X1,seval,X2,↓Ya,Yb,XM];have hfz:¬(flt g2 11 g2.pos).cd=0:=(by decide:¬((11:Int)=0))
      refine ⟨⟨(flt g2 11 g2.pos,((g2.pos:Nat):Int),pr2),.inr ⟨hfz, ?_⟩⟩, ?_, ?_⟩
      ·rw [←hxc,zm3 hgz' (by rw [←hg];exact h2) htz' h2z' (by rw [←hg2'];exact hz),←hg2',e]
      ·rw [if_pos hcx];show (if (flt g2 11 g2.pos).cd=0 then _ else 0)<_;rw [if_neg hfz];have:=hx.pos;omega
      ·exact (Ent.ren1 [0,1,2,3] (by decide) (by simp only [Yd];exact ⟨zb (by simp [Yf,Yh]),za fun _=>rfl,za fun _=>rfl,za fun _=>rfl⟩) (by simp [ze,Vg.look,SV.mapH,muL,XRE,XR,XRH,XRN,Yh]))
     ·have hc:byt s g2.pos=93:=by simpa using h
      have e:cmR s g2 93=g2:=by unfold cmR;rw [if_neg h44,if_pos hc]
      obtain ⟨⟨k1,k2,k3,k4,k5,k6⟩,k7,k8⟩:=hcm (by rw [e];exact h2z) _ e.symm;refine ⟨⟨(g2,((g2.pos:Nat):Int),pr2),.inl ⟨k1,rfl,k2,k3,hd40,k4,k5,k6⟩⟩, ?_, ?_⟩
      ·rw [if_pos hcx];show (if g2.cd=0 then s.length+1-g2.pos else 0)<_;rw [if_pos k1];omega
      ·exact (Ent.ren1 [0,1,2,3] (by decide) (by simp only [Yd];exact ⟨zb (by simp [Yf,Yh]),za fun _=>rfl,za fun _=>rfl,za fun _=>rfl⟩) (by simp [ze,Vg.look,SV.mapH,muL,XRE,XR,XRH,XRN,Yh]))
    ·simp only [decide_eq_false htz];simp only [↓XC,X1,seval,X2,↓Ya,Yb];have eR:R=t:=by rw [←hxc,zm0 hgz' (by rw [←hg];exact h2) (by rw [←hg,←ht];exact htz),←hg,←ht]
     rw [eR];refine ⟨.tup [],(spC s (t) a2 pr2),⟨a2,pr2,fun h=>absurd h htz,rfl,rfl⟩, ?_⟩;exact Vf
  ·have eR:R=g:=by rw [←hxc,zfu (by rw [←hg];exact hgz),←hg]
   rw [eR];refine ⟨.tup [],(spC s (g) ((g.pos:Nat):Int) pr1),⟨((g.pos:Nat):Int),pr1,fun _=>rfl,rfl,rfl⟩, ?_⟩;exact Vf
 ·simp only [decide_eq_false hcx];simp only [↓XC,X1,seval,X2,↓Ya,Yb];have hR:R=x:=by
   rcases hI with h | h
   ·exact absurd h.1 hcx
   ·exact h.2
  have eR:R=x:=hR;rw [eR];refine ⟨.tup [],(spC s (x) a1 pr1),⟨a1,pr1,fun h=>absurd h hcx,rfl,rfl⟩, ?_⟩;exact Vf
theorem smap (s:Bs) (r:Rd) (pr:Int) (it:Rd→Rd) (ha:Bool) (an tg:Bs) (pe:Nat) (HI:r.dp<40→zj2 s (r.dp+1) it∧∀ (r1:Rd) (pr1:Int),Ok s r1→r1.dp=r.dp+1→zdi Tryz.prog 336 s [] pr1 r1 (it r1)) (hp:s.length≤1048576∧Ok s r∧r.pos<s.length):FnK Tryz.prog 303 1 [.ptr 0 0 0,.agg [.i .i64 0,.i .i64 0,.b false,.s [],.s an,.s tg,.i .i64 0,.i .i64 0]] (spC s (r) ((r).pos:Nat) pr) (fun z c=>∃ (a pr':Int),(((coR s it 125 4 r (⟨ha,an,tg,pe⟩:Pp))).cd=0→a=((((coR s it 125 4 r (⟨ha,an,tg,pe⟩:Pp))).pos:Nat):Int))∧z=.tup []∧c=(spC s ((coR s it 125 4 r (⟨ha,an,tg,pe⟩:Pp))) a pr')):=by
 refine HQx pn 68 [[0,3],[0,4],[0,4],[0,4,23],[0,4,26],[0,4],[],[0,4],[0,4,48],[0,4,51],[0,4],[0,4,61],[0,4]] Tryz.func303 [] (fun i=>i==3||i==8) [] [] ?_;simp only [↓XC,X1,seval,X2,↓Ya,Yb];obtain ⟨hs,ho,hlt⟩:=hp;have hsz:=ho.size hs;refine Vb (sopen s r pr 0 0 [] an tg 4 6 ⟨by omega,ho.dn,ho.bs,ho.cd,ho.dp⟩) ?_;simp only [↓XC,X1,seval,X2,↓Ya,Yb,XM];obtain ⟨ro,hro⟩:∃ ro,ro=opR r 4 6 (⟨false,an,tg,0⟩:Pp) r.pos:=⟨_,rfl⟩
 have hro':ro=opR r 4 6 (⟨ha,an,tg,pe⟩:Pp) r.pos:=hro;have hrp:ro.pos=r.pos:=by rw [hro];unfold opR;split<;>rfl
 rw [←hro,hrp];obtain ⟨R,hR⟩:∃ R,R=coR s it 125 4 r (⟨ha,an,tg,pe⟩:Pp):=⟨_,rfl⟩
 rw [←hR];have hC:R=if ro.cd≠0 then ro else clL s it 125 r.ev.length (atR ro (r.pos+1)):=by rw [hR,hro'];rfl
 refine CR fun _=>?_;have hx0:∃ x0:Rd,(x0.ev=ro.ev∧x0.cd=ro.cd∧x0.pl=ro.pl∧x0.dp=ro.dp∧x0.dn=ro.dn∧x0.bs=ro.bs∧x0.hd=ro.hd)∧((x0.cd=0∧((r.pos:Int)+1)=(x0.pos:Nat)∧Ok s x0∧x0.dp=r.dp+1∧r.dp<40∧(r.ev++[evO 4 6 an tg]) <+: x0.ev∧x0.bs=r.bs∧clL s it 125 r.ev.length x0=R)∨(x0.cd≠0∧R=x0)):=by
  by_cases hz:ro.cd=0
  ·rw [hro] at hz;obtain ⟨e,hd⟩:=zgn hz;rw [if_neg (by rw [hro];simpa using hz),hro] at hC;have h9:=ho.sz;have h8:=ho.bs;refine ⟨atR ro (r.pos+1),⟨rfl,rfl,rfl,rfl,rfl,rfl,rfl⟩,.inl ?_⟩;rw [hro];refine ⟨hz,by simp [atR], ?_,by rw [e];rfl,hd,by rw [e];exact List.prefix_refl _,by rw [e];rfl,hC.symm⟩;rw [e];exact ⟨ho.cd,hlt,by simp [atR,zf,ho.dn],by simp only [atR,zf,List.length_append];omega,by simp only [atR];omega,by simp only [atR,zf,List.length_append,List.length_singleton];omega,ho.hd,ho.pf⟩
  ·exact ⟨ro,⟨rfl,rfl,rfl,rfl,rfl,rfl,rfl⟩,.inr ⟨hz,by rw [hC,if_pos hz]⟩⟩
 obtain ⟨x0,⟨e1,e2,e3,e4,e5,e6,e7⟩,hI0⟩:=hx0;rw [←e1,←e2,←e3,←e4,←e5,←e6,←e7];refine zl.of (ι:={x:Rd×Int×Int // (x.1.cd=0∧x.2.1=(x.1.pos:Nat)∧Ok s x.1∧x.1.dp=r.dp+1∧r.dp<40∧(r.ev++[evO 4 6 an tg]) <+: x.1.ev∧x.1.bs=r.bs∧clL s it 125 r.ev.length x.1=R)∨(x.1.cd≠0∧R=x.1)}) (fun x=>⟨[(0,.ptr 0 0 0),(4,.i .i64 (if 40≤r.dp then (-2:Int) else if an=[] then -1 else ((nmS r.ev r.dn r.bs).length:Nat)))],(spC s (x.1.1) x.1.2.1 x.1.2.2)⟩) (fun x=>if x.1.1.cd=0 then s.length+1-x.1.1.pos else 0) ⟨(x0,(r.pos:Int)+1,pr),hI0⟩ (Ent.ren1 [0,1,2,3] (by decide) (by simp only [Yd];exact ⟨zb (by simp [Yf,Yh]),za fun _=>rfl,za fun _=>rfl,za fun _=>rfl⟩) (by simp [ze,Vg.look,SV.mapH,muL,XRE,XR,XRH,XRN,Yh])) ?_;rintro ⟨⟨x,a1,pr1⟩,hI⟩;simp only [YC];simp only [↓XC,X1,seval,X2];by_cases hcx:x.cd=0
 ·have hI2:x.cd=0∧a1=(x.pos:Nat)∧Ok s x∧x.dp=r.dp+1∧r.dp<40∧(r.ev++[evO 4 6 an tg]) <+: x.ev∧x.bs=r.bs∧clL s it 125 r.ev.length x=R:=by
   rcases hI with h | h
   ·exact h
   ·exact absurd hcx h.1
  obtain ⟨_,hxa,hx,hxd,hd40,hpre,hxb,hxc⟩:=hI2;subst hxa;obtain ⟨hit,HN⟩:=HI hd40;have hsz:=hx.size hs;simp only [decide_eq_true hcx];simp only [↓XC,X1,seval,X2,↓Ya,Yb];refine Vm (sgap s x pr1 ⟨hs,hcx,hx.pos⟩) ?_;simp only [↓XC,X1,seval,X2,↓Ya,Yb,XM];obtain ⟨g,hg⟩:∃ g,g=yq s x:=⟨_,rfl⟩
  rw [←hg];refine ⟨fun hgz=>?_,fun hgz=>?_⟩
  ·have hgz':(yq s x).cd=0:=by rw [←hg];exact hgz
   have hgo:Ok s g:=by rw [hg];exact hx.gap hgz'
   have hgsz:=hgo.size hs;obtain ⟨e9,hp9⟩:=wo hgz';have hgp:g.pos<s.length:=by rw [hg,e9];exact hp9
   have hgd:g.dp=r.dp+1:=by rw [hg,e9];exact hxd
   have hge:g.ev=x.ev:=by rw [hg,e9];rfl
   have hgb:g.bs=r.bs:=by rw [hg,e9];exact hxb
   obtain ⟨tl,htl⟩:=hpre;refine Vm (un s g pr1 hs) ?_;simp only [↓XC,X1,seval,X2,↓Ya,Yb,XM];simp only [by0 (show (0:Int)<125 by decide)];refine ⟨fun h2=>CR fun _=>?_,fun h2=>?_⟩
   ·have hN:(if 40≤r.dp then (-2:Int) else if an=[] then -1 else ((nmS r.ev r.dn r.bs).length:Nat))=(if ((atR g (g.pos+1)).ev.getD r.ev.length evz).anchor=[] then (-1:Int) else ((anI (List.take r.ev.length (atR g (g.pos+1)).ev) (atR g (g.pos+1)).bs).length:Nat)):=by rw [if_neg (by omega),show (atR g (g.pos+1)).ev=x.ev from hge,show (atR g (g.pos+1)).bs=r.bs from hgb,←htl];simp [evO,nmS,List.getElem?_append_right]
    rw [hN];refine Vb (zud s (atR g (g.pos+1)) pr1 r.ev.length ⟨by show g.ev.length≤_;omega,hgo.dn,hgo.bs,by show r.ev.length<g.ev.length;rw [hge,←htl];simp,by show g.bs≤_;rw [hgb];exact ho.bs,by show 0<g.dp;omega,hgo.dp⟩) ?_;simp only [↓XC,X1,seval,X2,↓Ya,Yb,XM];have eR:R=shR (atR g (g.pos+1)) r.ev.length:=by rw [←hxc,zfv hgz' (by rw [←hg];exact h2),←hg]
    rw [eR];refine ⟨.tup [],(spC s (shR (atR g (g.pos+1)) r.ev.length) (((shR (atR g (g.pos+1)) r.ev.length).pos:Nat):Int) pr1),⟨(((shR (atR g (g.pos+1)) r.ev.length).pos:Nat):Int),pr1,fun _=>rfl,rfl,rfl⟩, ?_⟩;exact Vf
   ·obtain ⟨t,ht⟩:∃ t,t=it g:=⟨_,rfl⟩
    have hN:=HN g pr1 hgo hgd;rw [←ht] at hN;unfold zdi spC at hN;refine Vq (hN) ?_;rintro z c ⟨a2,pr2,ha2,rfl,rfl⟩;simp only [↓XC,X1,seval,X2,↓Ya,Yb,XM];by_cases htz:t.cd=0
    ·have ha2':=ha2 htz;subst ha2';have htz':(it (yq s x)).cd=0:=by rw [←hg,←ht];exact htz
     have hst:=hit g hgo hgd (by rw [←ht];exact htz);rw [←ht] at hst;have hto:=hst.ok;simp only [decide_eq_true htz];simp only [↓XC,X1,seval,X2,↓Ya,Yb];refine Vm (sgap s t pr2 ⟨hs,htz,hto.pos⟩) ?_;simp only [↓XC,X1,seval,X2,↓Ya,Yb,XM];obtain ⟨g2,hg2⟩:∃ g2,g2=yq s t:=⟨_,rfl⟩
     have hg2':g2=yq s (it (yq s x)):=by rw [hg2,ht,hg]
     rw [←hg2];refine ⟨fun h=>?_,fun h=>?_⟩
     ·have h2z:¬g2.cd=0:=by simpa using h
      have eR:R=g2:=by rw [←hxc,zm2 hgz' (by rw [←hg];exact h2) htz' (by rw [←hg2'];exact h2z),←hg2']
      rw [eR];refine ⟨.tup [],(spC s (g2) ((g2.pos:Nat):Int) pr2),⟨((g2.pos:Nat):Int),pr2,fun _=>rfl,rfl,rfl⟩, ?_⟩;exact Vf
     have h2z:g2.cd=0:=by simpa using h
     have h2z':(yq s (it (yq s x))).cd=0:=by rw [←hg2'];exact h2z
     have hg2o:Ok s g2:=by rw [hg2];exact hto.gap (by rw [←hg2];exact h2z)
     have hg2p:g2.pos<s.length:=by obtain ⟨e9,h9⟩:=wo (s:=s) (r:=t) (by rw [←hg2];exact h2z);rw [hg2,e9];exact h9
     have hcm:(cmR s g2 125).cd=0→∀ t2,t2=cmR s g2 125→(t2.cd=0∧Ok s t2∧t2.dp=r.dp+1∧(r.ev++[evO 4 6 an tg]) <+: t2.ev∧t2.bs=r.bs∧clL s it 125 r.ev.length t2=R)∧x.pos<t2.pos∧t2.pos≤s.length:=fun hz t2 ht2=>by
      have ht2':t2=cmR s (yq s (it (yq s x))) 125:=by rw [ht2,hg2']
      have h3z:t2.cd=0:=by rw [ht2];exact hz
      have hrd:=zch hit hx hxd hgz' htz' h2z' (by rw [←ht2'];exact h3z);rw [←ht2'] at hrd;have hlt3:=hrd.lt;have hpo3:=hrd.ok.pos;refine ⟨⟨h3z,hrd.ok,hrd.dp.trans hxd, ?_,hrd.bs.trans hxb, ?_⟩,hlt3,hpo3⟩
      ·exact List.IsPrefix.trans ⟨tl,htl⟩ hrd.pre
      ·rw [←hxc,zm1 hgz' (by rw [←hg];exact h2) htz' h2z' ⟨by rw [←ht2'];exact h3z,by rw [←ht2'];exact hlt3,by omega⟩,←ht2']
     refine Vm (un s g2 pr2 hs) ?_;simp only [↓XC,X1,seval,X2,↓Ya,Yb,XM];simp only [by0 (show (0:Int)<44 by decide)];refine ⟨fun h44=>CR fun _=>?_,fun h44=>?_⟩
     ·have e:cmR s g2 125=atR g2 (g2.pos+1):=by unfold cmR;rw [if_pos h44]
      obtain ⟨⟨k1,k2,k3,k4,k5,k6⟩,k7,k8⟩:=hcm (by rw [e];exact h2z) _ e.symm;refine ⟨⟨(atR g2 (g2.pos+1),((g2.pos+1:Nat):Int),pr2),.inl ⟨k1,rfl,k2,k3,hd40,k4,k5,k6⟩⟩, ?_, ?_⟩
      ·rw [if_pos hcx];show (if (atR g2 (g2.pos+1)).cd=0 then s.length+1-(g2.pos+1) else 0)<_;rw [if_pos k1];have k7':x.pos<g2.pos+1:=k7;omega
      ·exact (Ent.ren1 [0,1,2,3] (by decide) (by simp only [Yd];exact ⟨zb (by simp [Yf,Yh]),za fun _=>rfl,za fun _=>rfl,za fun _=>rfl⟩) (by simp [ze,Vg.look,SV.mapH,muL,XRE,XR,XRH,XRN,Yh]))
     refine Vm (un s g2 pr2 hs) ?_;simp only [↓XC,X1,seval,X2,↓Ya,Yb,XM];simp only [by0 (show (0:Int)<125 by decide)];refine ⟨fun h=>?_,fun h=>?_⟩
     ·have hc:¬byt s g2.pos=125:=by simpa using h
      have e:cmR s g2 125=flt g2 11 g2.pos:=by unfold cmR;rw [if_neg h44,if_neg hc]
      have hz:¬(cmR s g2 125).cd=0:=by rw [e];exact (by decide:¬((11:Int)=0))
      refine Vm (vg s g2 pr2 11 g2.pos h2z) ?_;simp only [↓XC,X1,seval,X2,↓Ya,Yb,XM];have hfz:¬(flt g2 11 g2.pos).cd=0:=(by decide:¬((11:Int)=0))
      refine ⟨⟨(flt g2 11 g2.pos,((g2.pos:Nat):Int),pr2),.inr ⟨hfz, ?_⟩⟩, ?_, ?_⟩
      ·rw [←hxc,zm3 hgz' (by rw [←hg];exact h2) htz' h2z' (by rw [←hg2'];exact hz),←hg2',e]
      ·rw [if_pos hcx];show (if (flt g2 11 g2.pos).cd=0 then _ else 0)<_;rw [if_neg hfz];have:=hx.pos;omega
      ·exact (Ent.ren1 [0,1,2,3] (by decide) (by simp only [Yd];exact ⟨zb (by simp [Yf,Yh]),za fun _=>rfl,za fun _=>rfl,za fun _=>rfl⟩) (by simp [ze,Vg.look,SV.mapH,muL,XRE,XR,XRH,XRN,Yh]))
     ·have hc:byt s g2.pos=125:=by simpa using h
      have e:cmR s g2 125=g2:=by unfold cmR;rw [if_neg h44,if_pos hc]
      obtain ⟨⟨k1,k2,k3,k4,k5,k6⟩,k7,k8⟩:=hcm (by rw [e];exact h2z) _ e.symm;refine ⟨⟨(g2,((g2.pos:Nat):Int),pr2),.inl ⟨k1,rfl,k2,k3,hd40,k4,k5,k6⟩⟩, ?_, ?_⟩
      ·rw [if_pos hcx];show (if g2.cd=0 then s.length+1-g2.pos else 0)<_;rw [if_pos k1];omega
      ·exact (Ent.ren1 [0,1,2,3] (by decide) (by simp only [Yd];exact ⟨zb (by simp [Yf,Yh]),za fun _=>rfl,za fun _=>rfl,za fun _=>rfl⟩) (by simp [ze,Vg.look,SV.mapH,muL,XRE,XR,XRH,XRN,Yh]))
    ·simp only [decide_eq_false htz];simp only [↓XC,X1,seval,X2,↓Ya,Yb];have eR:R=t:=by rw [←hxc,zm0 hgz' (by rw [←hg];exact h2) (by rw [←hg,←ht];exact htz),←hg,←ht]
     rw [eR];refine ⟨.tup [],(spC s (t) a2 pr2),⟨a2,pr2,fun h=>absurd h htz,rfl,rfl⟩, ?_⟩;exact Vf
  ·have eR:R=g:=by rw [←hxc,zfu (by rw [←hg];exact hgz),←hg]
   rw [eR];refine ⟨.tup [],(spC s (g) ((g.pos:Nat):Int) pr1),⟨((g.pos:Nat):Int),pr1,fun _=>rfl,rfl,rfl⟩, ?_⟩;exact Vf
 ·simp only [decide_eq_false hcx];simp only [↓XC,X1,seval,X2,↓Ya,Yb];have hR:R=x:=by
   rcases hI with h | h
   ·exact absurd h.1 hcx
   ·exact h.2
  have eR:R=x:=hR;rw [eR];refine ⟨.tup [],(spC s (x) a1 pr1),⟨a1,pr1,fun h=>absurd h hcx,rfl,rfl⟩, ?_⟩;exact Vf
theorem snode (s:Bs) (r:Rd) (pr:Int) (sb:Rd→Rd) (HL:∀ (r1:Rd) (pr1:Int) (ha:Bool) (an tg:Bs) (pe:Nat),Ok s r1→r1.dp=r.dp→byt s r1.pos=91→zdi Tryz.prog 302 s [.agg [.i .i64 0,.i .i64 0,.b false,.s [],.s an,.s tg,.i .i64 0,.i .i64 0]] pr1 r1 (coR s sb 93 3 r1 (⟨ha,an,tg,pe⟩:Pp))) (HM:∀ (r1:Rd) (pr1:Int) (ha:Bool) (an tg:Bs) (pe:Nat),Ok s r1→r1.dp=r.dp→byt s r1.pos=123→zdi Tryz.prog 303 s [.agg [.i .i64 0,.i .i64 0,.b false,.s [],.s an,.s tg,.i .i64 0,.i .i64 0]] pr1 r1 (coR s (paR s sb) 125 4 r1 (⟨ha,an,tg,pe⟩:Pp))) (hp:s.length≤1048576∧Ok s r):FnK Tryz.prog 335 1 [.ptr 0 0 0] (spC s (r) ((r).pos:Nat) pr) (fun z c=>∃ (a pr':Int),(((noR s sb r)).cd=0→a=((((noR s sb r)).pos:Nat):Int))∧z=.tup []∧c=(spC s ((noR s sb r)) a pr')):=by
 refine HQx pn 57 [[0,2,3],[0,2,3,14],[0,2,3,4],[],[0,2,3,4,23],[],[0,2,3,4,29],[],[0,2,3,4,35],[0,2,40],[]] Tryz.func335 [] (fun _=>false) [] [] ?_;simp only [↓XC,X1,seval,X2,↓Ya,Yb];obtain ⟨hs,ho⟩:=hp;have hsz:=ho.size hs;have hcd:=ho.cd;obtain ⟨R,hR⟩:∃ R,R=noR s sb r:=⟨_,rfl⟩
 rw [←hR];refine Vq (zo3 s r pr true ⟨hs,hcd,ho.pos,ho.hd,ho.pf⟩) ?_;rintro z c ⟨pr1,an,tg,ha,hq,rfl,rfl⟩;simp only [↓XC,X1,seval,X2,↓Ya,Yb,XM];obtain ⟨F,hF⟩:∃ F,F=prZ s true r:=⟨_,rfl⟩
 have hF':F=prF s r:=hF;rw [←hF] at hq ⊢;refine ⟨fun h=>?_,fun h=>?_⟩
 ·have hFz:¬F.cd=0:=by simpa using h
  have eR:R=F:=by rw [hR];unfold noR;rw [←hF',if_pos hFz]
  rw [eR];refine ⟨.tup [],(spC s (F) (((F).pos:Nat):Int) pr1),⟨(((F).pos:Nat):Int),pr1,fun _=>rfl,rfl,rfl⟩, ?_⟩;exact Vf
 have hFz:F.cd=0:=by simpa using h
 obtain ⟨_,ean,etg,eha⟩:=hq hFz;subst ean etg eha;obtain ⟨p,hpp⟩:∃ p,p=prP s true r:=⟨_,rfl⟩
 rw [←hpp];have hFo:Ok s F:=by rw [hF'];exact ho.prF (by rw [←hF'];exact hFz)
 have hFd:F.dp=r.dp:=by obtain ⟨q9,e9,_⟩:=zf8 ho.pos hcd (show (prF s r).cd=0 by rw [←hF'];exact hFz);rw [hF',e9];rfl
 have hFsz:=hFo.size hs;have hRb:R=boR s sb F p:=by rw [hR];unfold noR;rw [←hF',if_neg (by simpa using hFz),←hpp]
 refine Vm (un s F pr1 hs) ?_;simp only [↓XC,X1,seval,X2,↓Ya,Yb,XM];simp only [by0 (show (0:Int)<91 by decide)];simp only [by0 (show (0:Int)<123 by decide)];refine ⟨fun h91=>?_,fun h91=>⟨fun h123=>?_,fun h123=>?_⟩⟩
 ·have hN:=HL F pr1 p.has p.an p.tg p.en hFo hFd h91;unfold zdi spC at hN;refine Vq (hN) ?_;rintro z c ⟨a2,pr2,ha2,rfl,rfl⟩;simp only [↓XC,X1,seval,X2,↓Ya,Yb,XM];have eR:R=coR s sb 93 3 F (⟨p.has,p.an,p.tg,p.en⟩:Pp):=by rw [hRb];unfold boR;rw [if_pos h91]
  rw [eR];refine ⟨.tup [],(spC s (coR s sb 93 3 F (⟨p.has,p.an,p.tg,p.en⟩:Pp)) a2 pr2),⟨a2,pr2,ha2,rfl,rfl⟩, ?_⟩;exact Vf
 ·have hN:=HM F pr1 p.has p.an p.tg p.en hFo hFd h123;unfold zdi spC at hN;refine Vq (hN) ?_;rintro z c ⟨a2,pr2,ha2,rfl,rfl⟩;simp only [↓XC,X1,seval,X2,↓Ya,Yb,XM];have eR:R=coR s (paR s sb) 125 4 F (⟨p.has,p.an,p.tg,p.en⟩:Pp):=by rw [hRb];unfold boR;rw [if_neg h91,if_pos h123]
  rw [eR];refine ⟨.tup [],(spC s (coR s (paR s sb) 125 4 F (⟨p.has,p.an,p.tg,p.en⟩:Pp)) a2 pr2),⟨a2,pr2,ha2,rfl,rfl⟩, ?_⟩;exact Vf
 have hRs:R=scR s F p 93 125:=by rw [hRb];unfold boR;rw [if_neg h91,if_neg h123]
 refine Vb (ze6 s F pr1 0 0 [] p.an p.tg p.has (-1) true ⟨hs,by omega,hFo.dn,hFo.bs,hFz,hFo.pos⟩) ?_;simp only [↓XC,X1,seval,X2,↓Ya,Yb,XM];refine ⟨fun hb=>?_,fun hb=>?_⟩
 ·have eR:R=scX s F (⟨p.has,p.an,p.tg,0⟩:Pp) (-1) true:=by rw [hRs,scR_x hb];rfl
  rw [eR];refine ⟨.tup [],(spC s (scX s F (⟨p.has,p.an,p.tg,0⟩:Pp) (-1) true) (((scX s F (⟨p.has,p.an,p.tg,0⟩:Pp) (-1) true).pos:Nat):Int) pr1),⟨(((scX s F (⟨p.has,p.an,p.tg,0⟩:Pp) (-1) true).pos:Nat):Int),pr1,fun _=>rfl,rfl,rfl⟩, ?_⟩;exact Vf
 ·obtain ⟨ex,es⟩:=scR_n (p:=p) (c1:=93) (c2:=125) hb;rw [←hRs] at es;rw [show scX s F (⟨p.has,p.an,p.tg,0⟩:Pp) (-1) true=F from ex];simp only [by0 (show (0:Int)<44 by decide)];simp only [by0 (show (0:Int)<93 by decide)];simp only [by0 (show (0:Int)<125 by decide)];refine ⟨fun hc=>?_,fun hc=>?_⟩
  ·rw [if_pos (by simpa [or_assoc] using hc)] at es;refine Vb (zg1 s F pr1 0 0 [] p.an p.tg 1 [] ⟨by omega,hFo.dn,hFo.bs⟩) ?_;simp only [↓XC,X1,seval,X2,↓Ya,Yb,XM];have eR:R=yb F 1 [] p.an p.tg:=es;rw [eR];refine ⟨.tup [],(spC s (yb F 1 [] p.an p.tg) (((yb F 1 [] p.an p.tg).pos:Nat):Int) pr1),⟨(((yb F 1 [] p.an p.tg).pos:Nat):Int),pr1,fun _=>rfl,rfl,rfl⟩, ?_⟩;try simp only [YC,yb,zf,List.length_append,List.length_cons,List.length_nil,Nat.zero_add]
   exact Vf
  ·rw [if_neg (by simpa [or_assoc,and_assoc] using hc)] at es;refine Vm (vg s F pr1 10 F.pos hFz) ?_;simp only [↓XC,X1,seval,X2,↓Ya,Yb,XM];have eR:R=flt F 10 F.pos:=es;rw [eR];refine ⟨.tup [],(spC s (flt F 10 F.pos) (((flt F 10 F.pos).pos:Nat):Int) pr1),⟨(((flt F 10 F.pos).pos:Nat):Int),pr1,fun _=>rfl,rfl,rfl⟩, ?_⟩;exact Vf
theorem spair (s:Bs) (r:Rd) (pr:Int) (sb:Rd→Rd) (HS:∀ (r1:Rd) (pr1:Int),Ok s r1→r1.dp=r.dp→zdi Tryz.prog 335 s [] pr1 r1 (sb r1)) (hp:s.length≤1048576∧Ok s r):FnK Tryz.prog 336 1 [.ptr 0 0 0] (spC s (r) ((r).pos:Nat) pr) (fun z c=>∃ (a pr':Int),(((paR s sb r)).cd=0→a=((((paR s sb r)).pos:Nat):Int))∧z=.tup []∧c=(spC s ((paR s sb r)) a pr')):=by
 refine HQx pn 88 [[0,2,3],[0,2,3,15],[0,2,3,4],[0,2,3,4,5],[0,2,3,4,5,28],[0,2,5,42],[],[0,5],[0,5,61],[0,64],[0],[0,74],[0,82],[],[]] Tryz.func336 [] (fun i=>i==8||i==12) [8] [] ?_;simp only [↓XC,X1,seval,X2,↓Ya,Yb,zp];obtain ⟨hs,ho⟩:=hp;have hsz:=ho.size hs;have hcd:=ho.cd;obtain ⟨R,hR⟩:∃ R,R=paR s sb r:=⟨_,rfl⟩
 rw [←hR];refine Vq (zo3 s r pr true ⟨hs,hcd,ho.pos,ho.hd,ho.pf⟩) ?_;rintro z c ⟨pr1,an,tg,ha,hq,rfl,rfl⟩;simp only [↓XC,X1,seval,X2,↓Ya,Yb,zp,XM];obtain ⟨F,hF⟩:∃ F,F=prZ s true r:=⟨_,rfl⟩
 have hF':F=prF s r:=hF;rw [←hF] at hq ⊢;refine ⟨fun h=>?_,fun h=>?_⟩
 ·have hFz:¬F.cd=0:=by simpa using h
  have eR:R=F:=by rw [hR];unfold paR;rw [←hF',if_pos hFz]
  rw [eR];refine ⟨.tup [],(spC s (F) (((F).pos:Nat):Int) pr1),⟨(((F).pos:Nat):Int),pr1,fun _=>rfl,rfl,rfl⟩, ?_⟩;exact Vf
 have hFz:F.cd=0:=by simpa using h
 obtain ⟨_,ean,etg,eha⟩:=hq hFz;subst ean etg eha;obtain ⟨p,hpp⟩:∃ p,p=prP s true r:=⟨_,rfl⟩
 rw [←hpp];have hFo:Ok s F:=by rw [hF'];exact ho.prF (by rw [←hF'];exact hFz)
 have hFd:F.dp=r.dp:=by obtain ⟨q9,e9,_⟩:=zf8 ho.pos hcd (show (prF s r).cd=0 by rw [←hF'];exact hFz);rw [hF',e9];rfl
 have hFsz:=hFo.size hs;refine Vm (un s F pr1 hs) ?_;simp only [↓XC,X1,seval,X2,↓Ya,Yb,zp,XM];have hqu:(decide ((if byt s F.pos<0 then (0:Int) else byt s F.pos)=39)||decide ((if byt s F.pos<0 then (0:Int) else byt s F.pos)=34))=isQu (byt s F.pos):=by
  have e1:=by0 (s:=s) (p:=F.pos) (show (0:Int)<39 by decide)
  have e2:=by0 (s:=s) (p:=F.pos) (show (0:Int)<34 by decide)
  simp only [e1,e2,isQu];rfl
 refine zav.of (ι:={x:Rd // x=scR s F p 125 58}) (fun x=>⟨[(0,.ptr 0 0 0),(5,.b (isQu (byt s F.pos)))],[some (.blk false [.s s,.i .i64 ((x.1).pos:Nat),.slc 1 0 (x.1).ev.length,.i .i64 (x.1).cd,.i .i64 ((x.1).pl:Nat),.i .i64 ((x.1).dp:Nat),.slc 2 0 (nmS (x.1).ev (x.1).dn (x.1).bs).length,.slc 3 0 (x.1).hd.length,.i .i64 pr1]),some (.row false 8 (x.1).ev.length (zu evc evz (x.1).ev)),some (.row false 2 (nmS (x.1).ev (x.1).dn (x.1).bs).length (zu nac ([],false) (nmS (x.1).ev (x.1).dn (x.1).bs))),some (.row false 2 (x.1).hd.length (zu hdc hdz (x.1).hd))]⟩) ?_ ?_
 ·simp only [↓XC,X1,seval,X2,↓Ya,Yb,zp];rw [hqu];refine Vb (ze6 s F pr1 0 0 [] p.an p.tg p.has (-1) true ⟨hs,by omega,hFo.dn,hFo.bs,hFz,hFo.pos⟩) ?_;simp only [↓XC,X1,seval,X2,↓Ya,Yb,zp,XM];refine ⟨fun hb=>?_,fun hb=>?_⟩
  ·have hb':sqB s F true=false:=by simpa using hb
   obtain ⟨ex,es⟩:=scR_n (p:=p) (c1:=125) (c2:=58) hb';rw [show scX s F (⟨p.has,p.an,p.tg,0⟩:Pp) (-1) true=F from ex];simp only [by0 (show (0:Int)<44 by decide)];simp only [by0 (show (0:Int)<125 by decide)];simp only [by0 (show (0:Int)<58 by decide)];refine ⟨fun hc=>?_,fun hc=>?_⟩
   ·have hc':¬(p.has=true∧(byt s F.pos=44∨byt s F.pos=125∨byt s F.pos=58)):=by rintro ⟨k1,k2⟩;rcases k2 with k2 | k2 | k2<;>simp [k1,k2] at hc
    rw [if_neg hc'] at es;have e:R=flt F 10 F.pos:=by rw [hR];unfold paR;rw [←hF',←hpp,if_neg (by simpa using hFz),es,if_pos (by simp [flt])]
    refine Vm (vg s F pr1 10 F.pos hFz) ?_;simp only [↓XC,X1,seval,X2,↓Ya,Yb,zp,XM];have eR:R=flt F 10 F.pos:=e;rw [eR];refine ⟨.tup [],(spC s (flt F 10 F.pos) (((flt F 10 F.pos).pos:Nat):Int) pr1),⟨(((flt F 10 F.pos).pos:Nat):Int),pr1,fun _=>rfl,rfl,rfl⟩, ?_⟩;exact Vf
   ·have hc':p.has=true∧(byt s F.pos=44∨byt s F.pos=125∨byt s F.pos=58):=by
     refine Classical.byContradiction fun hn=>?_;cases hh:p.has
     ·rw [hh] at hc;simp at hc
     ·simp only [hh,true_and,not_or] at hn;simp [hh,hn.1,hn.2.1,hn.2.2] at hc
    rw [if_pos hc'] at es;refine Vb (zg1 s F pr1 0 0 [] p.an p.tg 1 [] ⟨by omega,hFo.dn,hFo.bs⟩) ?_;simp only [↓XC,X1,seval,X2,↓Ya,Yb,zp,XM];refine ⟨⟨yb F 1 [] p.an p.tg,es.symm⟩, ?_⟩;simp only [yb,zf,List.length_append,List.length_cons,List.length_nil,Nat.zero_add];exact (Ent.ren1 [0,1,2,3] (by decide) (by simp only [Yd];exact ⟨zb (by simp [Yf,Yh]),za fun _=>rfl,za fun _=>rfl,za fun _=>rfl⟩) (by simp [ze,Vg.look,SV.mapH,muL]))
  ·have hb':sqB s F true=true:=by simpa using hb
   exact ⟨⟨scX s F (⟨p.has,p.an,p.tg,0⟩:Pp) (-1) true,(scR_x hb').symm⟩,(Ent.ren1 [0,1,2,3] (by decide) (by simp only [Yd];exact ⟨zb (by simp [Yf,Yh]),za fun _=>rfl,za fun _=>rfl,za fun _=>rfl⟩) (by simp [ze,Vg.look,SV.mapH,muL]))⟩
 rintro ⟨x,hx⟩;have e0:R=if x.cd≠0 then x else if (yq s x).cd≠0 then yq s x else paK s sb (isQu (byt s F.pos)) (yq s x):=by rw [hR];unfold paR;rw [←hF',←hpp,←hx,if_neg (by simpa using hFz)]
 simp only [↓XC,X1,seval,X2,↓Ya,Yb,zp];by_cases hxz:x.cd=0
 ·have hst:=z0r ho hF' hFz (by rw [hx,hpp]) hxz;have hxo:=hst.ok;simp only [decide_eq_true hxz];simp only [↓XC,X1,seval,X2,↓Ya,Yb,zp,↓Ya,Yb];obtain ⟨g,hg⟩:∃ g,g=yq s x:=⟨_,rfl⟩
  refine Vm (sgap s x pr1 ⟨hs,hxz,hxo.pos⟩) ?_;simp only [↓XC,X1,seval,X2,↓Ya,Yb,zp,XM];rw [←hg];rw [if_neg (by simpa using hxz),←hg] at e0;refine ⟨fun h=>?_,fun h=>?_⟩
  ·have hgz:¬g.cd=0:=by simpa using h
   have eR:R=g:=by rw [e0,if_pos hgz]
   rw [eR];refine ⟨.tup [],(spC s (g) (((g).pos:Nat):Int) pr1),⟨(((g).pos:Nat):Int),pr1,fun _=>rfl,rfl,rfl⟩, ?_⟩;exact Vf
  have hgz:g.cd=0:=by simpa using h
  have hgo:Ok s g:=by rw [hg];exact hxo.gap (by rw [←hg];exact hgz)
  have hgd:g.dp=r.dp:=by obtain ⟨e9,h9⟩:=wo (s:=s) (r:=x) (by rw [←hg];exact hgz);rw [hg,e9];exact hst.dp
  have hgp:g.pos<s.length:=by obtain ⟨e9,h9⟩:=wo (s:=s) (r:=x) (by rw [←hg];exact hgz);rw [hg,e9];exact h9
  have hgsz:=hgo.size hs;rw [if_neg (by simpa using hgz)] at e0;refine Vm (scolon s g pr1 (isQu (byt s F.pos)) ⟨hs,hgo.pos⟩) ?_;simp only [↓XC,X1,seval,X2,↓Ya,Yb,zp,XM];have hQ:(decide (byt s g.pos=58)&&(isQu (byt s F.pos)||gap s (g.pos+1)||flw (byt s (g.pos+1))))=decide (byt s g.pos=58∧(gap s (g.pos+1)||flw (byt s (g.pos+1))||isQu (byt s F.pos))=true):=by rw [Bool.decide_and,Bool.decide_eq_true];cases isQu (byt s F.pos)<;>cases gap s (g.pos+1)<;>simp
  rw [hQ];refine ⟨fun hc=>CR fun _=>?_,fun hc=>?_⟩
  ·obtain ⟨h',hh⟩:∃ h',h'=yq s (atR g (g.pos+1)):=⟨_,rfl⟩
   have hc':=of_decide_eq_true hc;rw [paK,if_pos hc',paV,←hh] at e0;refine Vm (sgap s (atR g (g.pos+1)) pr1 ⟨hs,hgz,hgp⟩) ?_;simp only [↓XC,X1,seval,TES,XRE,XR,XRH,XRN,flt,zf,yb,↓Ya,Yb,zp,XM];rw [←hh];refine ⟨fun hz=>?_,fun hz=>?_⟩
   ·have hz':¬h'.cd=0:=by simpa using hz
    have eR:R=h':=by rw [e0,if_pos hz']
    rw [eR];refine ⟨.tup [],(spC s (h') (((h').pos:Nat):Int) pr1),⟨(((h').pos:Nat):Int),pr1,fun _=>rfl,rfl,rfl⟩, ?_⟩;exact Vf
   have hz':h'.cd=0:=by simpa using hz
   obtain ⟨e9,h9⟩:=wo (s:=s) (r:=atR g (g.pos+1)) (by rw [←hh];exact hz');rw [←hh] at e9;have hho:Ok s h':=by rw [hh];exact (hgo.at (q:=g.pos+1) (by omega) hgp).gap (by rw [←hh];exact hz')
   have hhd:h'.dp=r.dp:=by rw [e9];exact hgd
   have hhp:h'.pos<s.length:=by rw [e9];exact h9
   have hhsz:=hho.size hs;rw [if_neg (by simpa using hz')] at e0;refine Vm (un s h' pr1 hs) ?_;simp only [↓XC,X1,seval,X2,↓Ya,Yb,zp,XM];simp only [by0 (show (0:Int)<44 by decide)];by_cases h44:byt s h'.pos=44
   ·simp only [decide_eq_true h44];simp only [↓XC,X1,seval,X2,↓Ya,Yb,zp,↓Ya,Yb];rw [if_pos (.inl h44)] at e0;refine Vb (zg1 s h' pr1 0 0 [] [] [] 1 [] ⟨by omega,hho.dn,hho.bs⟩) ?_;simp only [↓XC,X1,seval,X2,↓Ya,Yb,zp,XM];have eR:R=yb h' 1 [] [] []:=e0;rw [eR];refine ⟨.tup [],(spC s (yb h' 1 [] [] []) (((yb h' 1 [] [] []).pos:Nat):Int) pr1),⟨(((yb h' 1 [] [] []).pos:Nat):Int),pr1,fun _=>rfl,rfl,rfl⟩, ?_⟩;try simp only [YC,yb,zf,List.length_append,List.length_cons,List.length_nil,Nat.zero_add]
    exact Vf
   ·simp only [decide_eq_false h44];simp only [↓XC,X1,seval,X2,↓Ya,Yb,zp,↓Ya,Yb];refine Vm (un s h' pr1 hs) ?_;simp only [↓XC,X1,seval,X2,↓Ya,Yb,zp,XM];simp only [by0 (show (0:Int)<125 by decide)];refine ⟨fun hn=>?_,fun hn=>?_⟩
    ·have h125:¬byt s h'.pos=125:=by simpa using hn
     rw [if_neg (by rintro (k | k);exact h44 k;exact h125 k)] at e0;have hN:=HS h' pr1 hho hhd;unfold zdi spC at hN;refine Vq (hN) ?_;rintro z c ⟨a2,pr2,ha2,rfl,rfl⟩;simp only [↓XC,X1,seval,X2,↓Ya,Yb,zp,XM];have eR:R=sb h':=e0;rw [eR];refine ⟨.tup [],(spC s (sb h') a2 pr2),⟨a2,pr2,ha2,rfl,rfl⟩, ?_⟩;exact Vf
    ·have h125:byt s h'.pos=125:=by simpa using hn
     rw [if_pos (.inr h125)] at e0;refine Vb (zg1 s h' pr1 0 0 [] [] [] 1 [] ⟨by omega,hho.dn,hho.bs⟩) ?_;simp only [↓XC,X1,seval,X2,↓Ya,Yb,zp,XM];have eR:R=yb h' 1 [] [] []:=e0;rw [eR];refine ⟨.tup [],(spC s (yb h' 1 [] [] []) (((yb h' 1 [] [] []).pos:Nat):Int) pr1),⟨(((yb h' 1 [] [] []).pos:Nat):Int),pr1,fun _=>rfl,rfl,rfl⟩, ?_⟩;try simp only [YC,yb,zf,List.length_append,List.length_cons,List.length_nil,Nat.zero_add]
     exact Vf
  ·have hc':=of_decide_eq_false hc;rw [paK,if_neg hc'] at e0;refine Vb (zg1 s g pr1 0 0 [] [] [] 1 [] ⟨by omega,hgo.dn,hgo.bs⟩) ?_;simp only [↓XC,X1,seval,X2,↓Ya,Yb,zp,XM];have eR:R=yb g 1 [] [] []:=e0;rw [eR];refine ⟨.tup [],(spC s (yb g 1 [] [] []) (((yb g 1 [] [] []).pos:Nat):Int) pr1),⟨(((yb g 1 [] [] []).pos:Nat):Int),pr1,fun _=>rfl,rfl,rfl⟩, ?_⟩;try simp only [YC,yb,zf,List.length_append,List.length_cons,List.length_nil,Nat.zero_add]
   exact Vf
 ·simp only [decide_eq_false hxz];simp only [↓XC,X1,seval,X2,↓Ya,Yb,zp,↓Ya,Yb];have eR:R=x:=by rw [e0,if_pos hxz]
  rw [eR];refine ⟨.tup [],(spC s (x) (((x).pos:Nat):Int) pr1),⟨(((x).pos:Nat):Int),pr1,fun _=>rfl,rfl,rfl⟩, ?_⟩;exact Vf
end Go.T
end
