/- Own text: part TBP. -/
import Derived.Test.YtgippllfnmdnpaaGreatDoorTBO
section
set_option linter.unusedVariables false
set_option linter.unusedSimpArgs false
set_option linter.unusedSectionVars false
set_option linter.unnecessarySimpa false
namespace Go.T
variable [Go.Vg.Glob] [Go.Vg.GlobTabs 0 1]
open Go.Proofs Go.Vg Go.RowKit Go.TT Go.Pl
set_option maxRecDepth 10000
set_option maxHeartbeats 4000000
theorem znt (s:Bs) (x:Rb) (sb:Int→Bool→Bool→Rb→Rb) (oh:Bool) (oa og:Bs) (ofr:Int) (oe:Nat) (ha:Bool) (an tg:Bs) (fm pe:Nat) (HS:x.r.dp<40→zfj s (x.r.dp+1) sb∧∀ (n:Int) (i l:Bool) (x1:Rb),Ok s x1.r→x1.r.dp=x.r.dp+1→zcj Tryz.prog 252 s [.i .i64 n,.b i,.b l] x1 (sb n i l x1)) (hp:s.length≤1048576∧Ok s x.r∧(kyA s x.r.pos).2.2=true∧fm≤s.length):FnK Tryz.prog 280 1 [.ptr 0 0 0,.agg [.b oh,.s oa,.s og,.i .i64 ofr,.i .i64 (oe:Nat)],.agg [.b ha,.s an,.s tg,.i .i64 (fm:Nat),.i .i64 (pe:Nat)]] [some (.blk false [.s s,.i .i64 (((x).r).pos:Nat),.slc 1 0 ((x).r).ev.length,.slc 2 0 ((x).r).ev.length,.mp 3,.slc 4 0 ((x).r).hd.length,.i .i64 (((x).r).dp:Nat),.i .i64 ((x).r).cd,.i .i64 (((x).r).pl:Nat),.b (x).fr,.i .i64 ((x).lt:Nat)]),some (.row false 8 ((x).r).ev.length (zg evc evz ((x).r).ev)),some (.row false 1 ((x).r).ev.length (zg qy false ((x).r).dn)),some (.mapS (nmI ((x).r).ev ((x).r).bs)),some (.row false 2 ((x).r).hd.length (zg hdc hdz ((x).r).hd))] (fun z c=>z=.b (decide ((mpK s sb (⟨oh,oa,og,oe⟩:Pp) (⟨ha,an,tg,pe⟩:Pp) fm x).r.cd=0))∧c=[some (.blk false [.s s,.i .i64 ((((mpK s sb (⟨oh,oa,og,oe⟩:Pp) (⟨ha,an,tg,pe⟩:Pp) fm x)).r).pos:Nat),.slc 1 0 (((mpK s sb (⟨oh,oa,og,oe⟩:Pp) (⟨ha,an,tg,pe⟩:Pp) fm x)).r).ev.length,.slc 2 0 (((mpK s sb (⟨oh,oa,og,oe⟩:Pp) (⟨ha,an,tg,pe⟩:Pp) fm x)).r).ev.length,.mp 3,.slc 4 0 (((mpK s sb (⟨oh,oa,og,oe⟩:Pp) (⟨ha,an,tg,pe⟩:Pp) fm x)).r).hd.length,.i .i64 ((((mpK s sb (⟨oh,oa,og,oe⟩:Pp) (⟨ha,an,tg,pe⟩:Pp) fm x)).r).dp:Nat),.i .i64 (((mpK s sb (⟨oh,oa,og,oe⟩:Pp) (⟨ha,an,tg,pe⟩:Pp) fm x)).r).cd,.i .i64 ((((mpK s sb (⟨oh,oa,og,oe⟩:Pp) (⟨ha,an,tg,pe⟩:Pp) fm x)).r).pl:Nat),.b ((mpK s sb (⟨oh,oa,og,oe⟩:Pp) (⟨ha,an,tg,pe⟩:Pp) fm x)).fr,.i .i64 (((mpK s sb (⟨oh,oa,og,oe⟩:Pp) (⟨ha,an,tg,pe⟩:Pp) fm x)).lt:Nat)]),some (.row false 8 (((mpK s sb (⟨oh,oa,og,oe⟩:Pp) (⟨ha,an,tg,pe⟩:Pp) fm x)).r).ev.length (zg evc evz (((mpK s sb (⟨oh,oa,og,oe⟩:Pp) (⟨ha,an,tg,pe⟩:Pp) fm x)).r).ev)),some (.row false 1 (((mpK s sb (⟨oh,oa,og,oe⟩:Pp) (⟨ha,an,tg,pe⟩:Pp) fm x)).r).ev.length (zg qy false (((mpK s sb (⟨oh,oa,og,oe⟩:Pp) (⟨ha,an,tg,pe⟩:Pp) fm x)).r).dn)),some (.mapS (nmI (((mpK s sb (⟨oh,oa,og,oe⟩:Pp) (⟨ha,an,tg,pe⟩:Pp) fm x)).r).ev (((mpK s sb (⟨oh,oa,og,oe⟩:Pp) (⟨ha,an,tg,pe⟩:Pp) fm x)).r).bs)),some (.row false 2 (((mpK s sb (⟨oh,oa,og,oe⟩:Pp) (⟨ha,an,tg,pe⟩:Pp) fm x)).r).hd.length (zg hdc hdz (((mpK s sb (⟨oh,oa,og,oe⟩:Pp) (⟨ha,an,tg,pe⟩:Pp) fm x)).r).hd))]):=by
 refine FnK.ofE (cf:=zk Tryz.prog te [(248,xg),(32,j7)] 122 1 false (fun _=>true) (kp [(0,[0,4,5]),(1,[0,4,5,7]),(2,[0,4,5,7,22]),(3,[0,4,5,7]),(4,[0,4,5,7,8]),(5,[0,5,8,9,10]),(6,[0,5,8,9,39]),(7,[6]),(8,[0,5,8,9,11,12]),(9,[0,5,8,9,59]),(10,[6]),(11,[0,5,8,9,13]),(12,[0,5,8,9,13,69]),(13,[6]),(14,[0,5,8,9,84]),(15,[6]),(16,[0,5,8,9,12]),(17,[0,5,8,9,100]),(18,[6]),(19,[0,5,8,9,16]),(20,[0,5,8,9,115]),(21,[6])]) [4] [(11,[],[],.q1 0 (.q1 1 (.q1 2 (.q1 4 (.q1 5 (.q1 6 (.q0 3 [3] (.q0 7 [7] (.alt 8 (.q1 9 (.fin)) (.fin)))))))))),(19,[],[],.q1 0 (.q1 1 (.q1 2 (.q1 4 (.q1 5 (.q1 6 (.q0 3 [3] (.q0 7 [7] (.alt 8 (.q1 9 (.q1 10 (.q1 11 (.q1 12 (.q1 13 (.q1 14 (.q1 15 (.fin)))))))) (.fin))))))))))]) (zf te_ok (l:=[(248,xg),(32,j7)]) (⟨za7,za5,trivial⟩) zc) Tryz.func280 rfl rfl rfl (by simp [zk]) (by simp [zk]) (rs:=[.tmp 6]) rfl 100000 ?_
 simp only [↓XC,XV,XT,Yg,seval,TES,wi,qa,XRE,XR,XRH,Yh,yo]
 obtain ⟨hs,ho,hk,hfm⟩:=hp
 have hpos:=ho.pos
 have hcd:=ho.cd
 have hsz:=ho.size hs
 have hl:x.r.pos<s.length:=by have:=xx hpos hk;omega
 refine zgl.of (ι:={f:Nat // f=if ha=true then fm else x.r.pos}) (fun f=>⟨[(0,.ptr 0 0 0),(4,.ptr 5 0 0),(5,.ptr 6 0 0),(7,.i .i64 (f.1:Nat))],[some (.blk false [.s s,.i .i64 (((x).r).pos:Nat),.slc 1 0 ((x).r).ev.length,.slc 2 0 ((x).r).ev.length,.mp 3,.slc 4 0 ((x).r).hd.length,.i .i64 (((x).r).dp:Nat),.i .i64 ((x).r).cd,.i .i64 (((x).r).pl:Nat),.b (x).fr,.i .i64 ((x).lt:Nat)]),some (.row false 8 ((x).r).ev.length (zg evc evz ((x).r).ev)),some (.row false 1 ((x).r).ev.length (zg qy false ((x).r).dn)),some (.mapS (nmI ((x).r).ev ((x).r).bs)),some (.row false 2 ((x).r).hd.length (zg hdc hdz ((x).r).hd)),some (.blk false [.b oh,.s oa,.s og,.i .i64 ofr,.i .i64 (oe:Nat)]),some (.blk false [.b ha,.s an,.s tg,.i .i64 (fm:Nat),.i .i64 (pe:Nat)])]⟩) ?_ ?_
 ·simp only [↓XC,XV,XT,Yg,seval,TES,XRE,XR,XRH,Yh,↓Ya,Yb,yo,onB]
  exact ⟨fun h=>⟨⟨fm,by rw [if_pos h]⟩,Ent.refl _ _⟩,fun h=>⟨⟨x.r.pos,by rw [if_neg (by rw [h];simp)]⟩,(Ent.ren1 [0,1,2,3,4,5,6] (by decide) (by simp only [Yd];exact ⟨za (by simp [Yf,Yh,onB]),zb fun _=>rfl,zb fun _=>rfl,zl,zb fun _=>rfl,za (by simp [Yf]),za (by simp [Yf])⟩) (by simp [zi,Vg.look,SV.mapH,muL,onB]))⟩⟩
 rintro ⟨f,hf⟩
 have hfl:f≤s.length:=by rw [hf];split<;>omega
 simp only [↓XC,XV,XT,Yg,seval,TES,wi,XRE,XR,XRH,Yh,↓Ya,Yb,yo,onB]
 rw [zu s hfl]
 refine Chk.mk hs fun _=>?_
 refine Wb (ropen s x.r x.fr (x.lt:Nat) 4 7 oh oa og ofr oe f ⟨Nat.le_trans hsz (by decide),ho.dn,ho.bs,ho.cd,by decide,ho.dp⟩) ?_
 simp only [↓XC,XV,XT,Yg,seval,TES,XRE,XR,XRH,Yh,↓Ya,Yb,yo,onB,XM]
 obtain ⟨ro,hro⟩:∃ ro,ro=opR x.r 4 7 (⟨oh,oa,og,oe⟩:Pp) f:=⟨_,rfl⟩
 rw [←hro]
 by_cases hz:ro.cd=0
 ·simp only [decide_eq_true hz]
  simp only [↓XC,XV,XT,Yg,seval,TES,XRE,XR,XRH,Yh,↓Ya,Yb,yo,onB]
  obtain ⟨hM,e1,e2,e3,e4,e5,e6⟩:=zma ho hl (show (opR x.r 4 7 (⟨oh,oa,og,oe⟩:Pp) f).cd=0 by rw [←hro];exact hz)
  rw [←hro] at hM e1 e2 e3 e4 e5
  rw [if_neg (show ¬40≤x.r.dp by omega)]
  have e:(mpK s sb (⟨oh,oa,og,oe⟩:Pp) (⟨ha,an,tg,pe⟩:Pp) fm x)=mpL s sb (coA s f) x.r.ev.length (⟨ha,an,tg,pe⟩:Pp) (onB x ro):=by unfold mpK;rw [←hf,←hro,if_neg (by simpa using hz)]
  rw [e]
  obtain ⟨R,hR⟩:∃ R,R=mpL s sb (coA s f) x.r.ev.length (⟨ha,an,tg,pe⟩:Pp) (onB x ro):=⟨_,rfl⟩
  rw [←hR]
  obtain ⟨hsk,HN⟩:=HS e6
  refine yv.of (ι:={y:Pp×Int×Rb // OkM s y.2.2.r∧y.2.2.r.dp=x.r.dp+1∧x.r.ev.length<y.2.2.r.ev.length∧(kyA s y.2.2.r.pos).2.2=true∧mpL s sb (coA s f) x.r.ev.length y.1 y.2.2=R}) (fun y=>⟨[(0,.ptr 0 0 0),(5,.ptr 6 0 0),(8,.i .i64 (coA s f:Nat)),(9,.i .i64 (x.r.ev.length:Nat))],[some (.blk false [.s s,.i .i64 (((y.1.2.2).r).pos:Nat),.slc 1 0 ((y.1.2.2).r).ev.length,.slc 2 0 ((y.1.2.2).r).ev.length,.mp 3,.slc 4 0 ((y.1.2.2).r).hd.length,.i .i64 (((y.1.2.2).r).dp:Nat),.i .i64 ((y.1.2.2).r).cd,.i .i64 (((y.1.2.2).r).pl:Nat),.b (y.1.2.2).fr,.i .i64 ((y.1.2.2).lt:Nat)]),some (.row false 8 ((y.1.2.2).r).ev.length (zg evc evz ((y.1.2.2).r).ev)),some (.row false 1 ((y.1.2.2).r).ev.length (zg qy false ((y.1.2.2).r).dn)),some (.mapS (nmI ((y.1.2.2).r).ev ((y.1.2.2).r).bs)),some (.row false 2 ((y.1.2.2).r).hd.length (zg hdc hdz ((y.1.2.2).r).hd)),some (.blk false [.b oh,.s oa,.s og,.i .i64 ofr,.i .i64 (oe:Nat)]),some (.blk false [.b y.1.1.has,.s y.1.1.an,.s y.1.1.tg,.i .i64 y.1.2.1,.i .i64 (y.1.1.en:Nat)])]⟩) (fun y=>s.length-y.1.2.2.r.pos) ⟨((⟨ha,an,tg,pe⟩:Pp),(fm:Nat),onB x ro),hM,e5,(by show _<ro.ev.length;rw [e2];simp),(by show (kyA s ro.pos).2.2=true;rw [e1];exact hk),hR.symm⟩ (Ent.ren1 [0,1,2,3,4,5,6] (by decide) (by simp only [Yd];exact ⟨za (by simp [Yf,Yh,onB]),zb fun _=>rfl,zb fun _=>rfl,zl,zb fun _=>rfl,za (by simp [Yf]),za (by simp [Yf])⟩) (by simp [zi,Vg.look,SV.mapH,muL,onB])) ?_
  rintro ⟨⟨own,fy,y⟩,hy,hyd,hye,hyk,hyR⟩
  simp only [↓XC,XV,XT,Yg,seval,TES,XRE,XR,XRH,Yh,↓Ya,Yb,yo,onB]
  obtain ⟨oha,oan,otg,oen⟩:=own
  simp only at hy hyd hye hyk hyR
  obtain ⟨k1,k2,k3,k4,k5⟩:=xx (Nat.le_of_lt hy.pos) hyk
  have hysz:=hy.sz
  have hypos:=hy.pos
  refine Wb (rkey s y.r y.fr (y.lt:Nat) oha oan otg fy oen ⟨hs,hy,hyk⟩) ?_
  simp only [↓XC,XV,XT,Yg,seval,TES,XRE,XR,XRH,Yh,↓Ya,Yb,yo,onB,XM]
  obtain ⟨kr,hkr⟩:∃ kr,kr=kyR s y.r (⟨oha,oan,otg,oen⟩:Pp):=⟨_,rfl⟩
  rw [←hkr]
  by_cases hkz:kr.cd=0
  ·simp only [decide_eq_true hkz]
   simp only [↓XC,XV,XT,Yg,seval,TES,XRE,XR,XRH,Yh,↓Ya,Yb,yo,onB]
   obtain ⟨ke,kq,ke1,ke2⟩:=kyR_k hy.cd (Nat.le_of_lt hy.pos) (show (kyR s y.r (⟨oha,oan,otg,oen⟩:Pp)).cd=0 by rw [←hkr];exact hkz)
   rw [←hkr] at ke1
   have hoA:Ok s (atR kr ((kyA s y.r.pos).2.1.toNat+1)):=by
    rw [ke1]
    exact ⟨hy.cd,k3,by simp [vn,atR,zn,hy.dn],by simp only [vn,atR,zn,List.length_append];have:=hy.bs;omega,hy.dp,by simp only [vn,atR,zn,List.length_append,List.length_singleton];omega,hy.hd,hy.pf⟩
   have hA2:kr.ev.length+1≤8 * ((kyA s y.r.pos).2.1.toNat+1)+64:=by rw [ke1];simp only [vn,atR,zn,List.length_append,List.length_singleton];omega
   have hkd:kr.dp=x.r.dp+1:=by rw [ke1];exact hyd
   obtain ⟨v,hv⟩:∃ v,v=vlK s sb (kyA s y.r.pos).2.1.toNat (coA s f:Nat) false (onB y kr):=⟨_,rfl⟩
   have hV:=rvalue s (onB y kr) sb (kyA s y.r.pos).2.1.toNat (coA s f:Nat) false (fun n i l x1 h1 h2=>HN n i l x1 h1 (by rw [h2];exact hkd)) ⟨hs,hoA,hA2,k3⟩
   rw [k5,←hv] at hV
   simp only [onB] at hV
   refine Wb (hV) ?_
   simp only [↓XC,XV,XT,Yg,seval,TES,XRE,XR,XRH,Yh,↓Ya,Yb,yo,onB,XM]
   by_cases hvz:v.r.cd=0
   ·have hvk:VlA s kr ((kyA s y.r.pos).2.1.toNat+1) v.r:=by
     have h:=hvz
     rw [hv] at h ⊢
     exact zul (x:=onB y kr) (by show zfj s kr.dp sb;rw [hkd];exact hsk) hoA hA2 k3 h
    simp only [decide_eq_true hvz]
    simp only [↓XC,XV,XT,Yg,seval,TES,XRE,XR,XRH,Yh,↓Ya,Yb,yo,onB]
    have hvo:=hvk.ok
    refine Wm (rnext s v.r v.fr (v.lt:Nat) ⟨hs,hvz,hvo.pos⟩) ?_
    simp only [↓XC,XV,XT,Yg,seval,TES,XRE,XR,XRH,Yh,↓Ya,Yb,yo,onB,XM]
    obtain ⟨w,hw⟩:∃ w,w=nxK s v:=⟨_,rfl⟩
    have hw0:(nxK s ⟨v.r,v.fr,0⟩).r=w.r:=by rw [hw];rfl
    rw [hw0,show v.r.pos=w.lt by rw [hw,(zj6 s v).2],show v.fr=w.fr by rw [hw,(zj6 s v).1]]
    have hmS:mpS s sb (coA s f) (⟨oha,oan,otg,oen⟩:Pp) y=w:=by unfold mpS;rw [←hkr,if_neg (by simpa using hkz),←hv,if_neg (by simpa using hvz),hw]
    by_cases hwz:w.r.cd=0
    ·simp only [decide_eq_true hwz]
     simp only [↓XC,XV,XT,Yg,seval,TES,wi,XRE,XR,XRH,Yh,↓Ya,Yb,yo,onB]
     obtain ⟨v2,hEn⟩:=mpS_k (c:=coA s f) (own:=(⟨oha,oan,otg,oen⟩:Pp)) (by rw [hyd];exact hsk) hy hyk (by rw [hmS];exact hwz)
     rw [hmS] at hEn
     have hwp:w.r.pos≤s.length:=by rw [hEn.eq.1];exact qt s _ hEn.ok.pos
     rw [zu s hwp]
     refine ⟨by decide +kernel,Chk.mk hs fun _=>?_⟩
     refine Wm (zda s w.r w.fr (w.lt:Nat) w.r.pos ⟨hs,hwp⟩) ?_
     simp only [↓XC,XV,XT,Yg,seval,TES,wi,XRE,XR,XRH,Yh,↓Ya,Yb,yo,onB,XM]
     have hv2:=hEn.ok
     have hwev:w.r.ev=v2.ev:=by rw [hEn.eq.1];rfl
     have hwO:Ok s w.r:=by rw [hEn.eq.1];exact hv2.at (wj s v2.pos) (qt s v2.pos hv2.pos)
     have hwsz:w.r.ev.length≤16777216:=Nat.le_trans (hwO.size hs) (by decide)
     have hwk:x.r.ev.length<w.r.ev.length:=by rw [hwev];exact Nat.lt_of_lt_of_le hye hEn.pre.length_le
     have hwd:w.r.dp=x.r.dp+1:=by rw [hEn.eq.1];exact hEn.dp.trans hyd
     have hwdp:=hwO.dp
     cases hst:zau s w.r.pos
     ·simp only [↓XC,XV,XT,Yg,seval,TES,XRE,XR,XRH,Yh,↓Ya,Yb,yo,onB]
      refine ⟨fun h2=>?_,fun h2=>?_⟩
      ·refine Wb (rdone s w.r w.fr x.r.ev.length w.lt ⟨hwsz,hwO.dn,hwO.bs,hwk,by omega,hwdp⟩) ?_
       simp only [↓XC,XV,XT,Yg,seval,TES,XRE,XR,XRH,Yh,↓Ya,Yb,yo,onB,XM]
       have e:R=dnK w x.r.ev.length:=by rw [←hyR,mpL_d hmS hwz (.inr (by omega))]
       rw [e]
       try simp only [dnK,atR,shR,List.length_append,List.length_cons,List.length_nil,Nat.zero_add]
       exact Wf (by simp only [↓XC,XV,XT,Yg,seval];try simp [Yf,onB,hwz])
      have h2n:¬(zau s w.r.pos=true∨coA s w.r.pos<coA s f):=by rw [hst];simp only [Bool.false_eq_true,false_or];omega
      refine ⟨fun h3=>?_,fun h3=>?_⟩
      ·refine Wm (wg s w.r w.fr (w.lt:Nat) 9 w.r.pos hwz) ?_
       simp only [↓XC,XV,XT,Yg,seval,TES,XRE,XR,XRH,Yh,↓Ya,Yb,yo,onB,XM]
       have e:R=onB w (flt w.r 9 w.r.pos):=by rw [←hyR,mpL_9 hmS hwz h2n (by omega)]
       rw [e]
       exact Wf
      have h3n:¬coA s f<coA s w.r.pos:=by omega
      refine Wm (znn s w.r w.fr (w.lt:Nat) false ⟨hs,hwz,hwp,hwO.hd,hwO.pf⟩) ?_
      simp only [↓XC,XV,XT,Yg,seval,TES,XRE,XR,XRH,Yh,↓Ya,Yb,yo,onB,XM]
      obtain ⟨q,hq⟩:∃ q,q=prR s false w.r:=⟨_,rfl⟩
      obtain ⟨pp,hpp⟩:∃ pp,pp=prP s false w.r:=⟨_,rfl⟩
      rw [←hq,←hpp]
      by_cases hqz:q.cd=0
      ·simp only [decide_eq_true hqz]
       simp only [↓XC,XV,XT,Yg,seval,TES,qa,XRE,XR,XRH,Yh,↓Ya,Yb,yo,onB]
       obtain ⟨qp,e9,l9,l10,_⟩:=vo (fl:=false) hwp hwz (show (prR s false w.r).cd=0 by rw [←hq];exact hqz)
       rw [←hq] at e9
       have hqpos:q.pos≤s.length:=by rw [e9];exact l10
       rw [zu s hqpos]
       refine ⟨by decide +kernel,Chk.mk hs fun _=>⟨fun h5=>?_,fun h5=>?_⟩⟩
       ·refine Wm (wg s q w.fr (w.lt:Nat) 10 q.pos hqz) ?_
        simp only [↓XC,XV,XT,Yg,seval,TES,XRE,XR,XRH,Yh,↓Ya,Yb,yo,onB,XM]
        have e:R=onB w (flt q 10 q.pos):=by rw [←hyR,mpL_10 hmS hwz h2n h3n (by rw [←hq];exact hqz) (by rw [←hq];simpa using h5),hq]
        rw [e]
        exact Wf
       ·have h5t:(kyA s q.pos).2.2=true:=by simpa using h5
        have hql:qp<s.length:=by
         rw [e9] at h5t
         have h:=xx (show (atR w.r qp).pos≤s.length from l10) h5t
         have h1:=h.2.2.1
         have h2:=h.2.2.2.1
         simp only [atR] at h1 h2;omega
        have hqe:q=atR v2 qp:=by rw [e9,hEn.eq.1];rfl
        obtain ⟨hM2,h6,h7⟩:=hEn.next (q:=qp) hy (by decide) (by rw [hEn.eq.1] at l9;exact l9) hql
        refine ⟨⟨(pp,(w.r.pos:Nat),onB w q), ?_, ?_, ?_,h5t, ?_⟩, ?_,(Ent.ren1 [0,1,2,3,4,5,6] (by decide) (by simp only [Yd];exact ⟨za (by simp [Yf,Yh,onB]),zb fun _=>rfl,zb fun _=>rfl,zl,zb fun _=>rfl,za (by simp [Yf]),za (by simp [Yf])⟩) (by simp [zi,Vg.look,SV.mapH,muL,onB]))⟩
        ·show OkM s q;rw [hqe];exact hM2
        ·show q.dp=_;rw [e9];exact hwd
        ·show _<q.ev.length;rw [e9];exact hwk
        ·show mpL s sb (coA s f) x.r.ev.length pp (onB w q)=R
         rw [←hyR,mpL_n hmS hwz h2n h3n (by rw [←hq];exact hqz) (by rw [←hq];exact h5t) ⟨by rw [←hq,hqe];exact h6,hypos⟩,hq,hpp]
        ·show s.length-q.pos<_
         rw [hqe];simp only [atR];omega
      ·simp only [decide_eq_false hqz]
       simp only [↓XC,XV,XT,Yg,seval,TES,XRE,XR,XRH,Yh,↓Ya,Yb,yo,onB]
       have e:R=onB w q:=by rw [←hyR,mpL_p hmS hwz h2n h3n (by rw [←hq];exact hqz),hq]
       rw [e]
       exact Wf (by simp only [↓XC,XV,XT,Yg,seval];try simp [Yf,onB,hqz])
     ·simp only [↓XC,XV,XT,Yg,seval,TES,XRE,XR,XRH,Yh,↓Ya,Yb,yo,onB]
      refine Wb (rdone s w.r w.fr x.r.ev.length w.lt ⟨hwsz,hwO.dn,hwO.bs,hwk,by omega,hwdp⟩) ?_
      simp only [↓XC,XV,XT,Yg,seval,TES,XRE,XR,XRH,Yh,↓Ya,Yb,yo,onB,XM]
      have e:R=dnK w x.r.ev.length:=by rw [←hyR,mpL_d hmS hwz (.inl hst)]
      rw [e]
      try simp only [dnK,atR,shR,List.length_append,List.length_cons,List.length_nil,Nat.zero_add]
      exact Wf (by simp only [↓XC,XV,XT,Yg,seval];try simp [Yf,onB,hwz])
    ·simp only [decide_eq_false hwz]
     simp only [↓XC,XV,XT,Yg,seval,TES,XRE,XR,XRH,Yh,↓Ya,Yb,yo,onB]
     have e:R=w:=by rw [←hyR,mpL_m hmS hwz]
     rw [e]
     exact Wf (by simp only [↓XC,XV,XT,Yg,seval];try simp [Yf,onB,hwz])
   ·simp only [decide_eq_false hvz]
    simp only [↓XC,XV,XT,Yg,seval,TES,XRE,XR,XRH,Yh,↓Ya,Yb,yo,onB]
    have e:R=v:=by rw [←hyR,mpL_m (w:=v) (by unfold mpS;rw [←hkr,if_neg (by simpa using hkz),←hv,if_pos hvz]) hvz]
    rw [e]
    exact Wf (by simp only [↓XC,XV,XT,Yg,seval];try simp [Yf,onB,hvz])
  ·simp only [decide_eq_false hkz]
   simp only [↓XC,XV,XT,Yg,seval,TES,XRE,XR,XRH,Yh,↓Ya,Yb,yo,onB]
   have e:R=onB y kr:=by rw [←hyR,mpL_m (w:=onB y kr) (by unfold mpS;rw [←hkr,if_pos hkz]) hkz]
   rw [e]
   exact Wf (by simp only [↓XC,XV,XT,Yg,seval];try simp [Yf,onB,hkz])
 ·simp only [decide_eq_false hz]
  simp only [↓XC,XV,XT,Yg,seval,TES,XRE,XR,XRH,Yh,↓Ya,Yb,yo,onB]
  have e:(mpK s sb (⟨oh,oa,og,oe⟩:Pp) (⟨ha,an,tg,pe⟩:Pp) fm x)=onB x ro:=by unfold mpK;rw [←hf,←hro,if_pos hz]
  rw [e]
  exact Wf (by simp only [↓XC,XV,XT,Yg,seval];try simp [Yf,onB,hz])
end Go.T
end
section
set_option linter.unusedVariables false
set_option linter.unusedSimpArgs false
set_option linter.unusedSectionVars false
set_option linter.unnecessarySimpa false
namespace Go.T
variable [Go.Vg.Glob] [Go.Vg.GlobTabs 0 1]
open Go.Proofs Go.Vg Go.RowKit Go.TT Go.Pl
set_option maxRecDepth 10000
set_option maxHeartbeats 4000000
theorem zjz (s:Bs) (x:Rb) (sb:Int→Bool→Bool→Rb→Rb) (oh:Bool) (oa og:Bs) (ofr:Int) (oe:Nat) (HS:x.r.dp<40→zfj s (x.r.dp+1) sb∧∀ (n:Int) (i l:Bool) (x1:Rb),Ok s x1.r→x1.r.dp=x.r.dp+1→zcj Tryz.prog 252 s [.i .i64 n,.b i,.b l] x1 (sb n i l x1)) (hp:s.length≤1048576∧Ok s x.r∧x.r.pos<s.length):FnK Tryz.prog 282 1 [.ptr 0 0 0,.agg [.b oh,.s oa,.s og,.i .i64 ofr,.i .i64 (oe:Nat)]] [some (.blk false [.s s,.i .i64 (((x).r).pos:Nat),.slc 1 0 ((x).r).ev.length,.slc 2 0 ((x).r).ev.length,.mp 3,.slc 4 0 ((x).r).hd.length,.i .i64 (((x).r).dp:Nat),.i .i64 ((x).r).cd,.i .i64 (((x).r).pl:Nat),.b (x).fr,.i .i64 ((x).lt:Nat)]),some (.row false 8 ((x).r).ev.length (zg evc evz ((x).r).ev)),some (.row false 1 ((x).r).ev.length (zg qy false ((x).r).dn)),some (.mapS (nmI ((x).r).ev ((x).r).bs)),some (.row false 2 ((x).r).hd.length (zg hdc hdz ((x).r).hd))] (fun z c=>z=.b (decide ((lsK s sb (⟨oh,oa,og,oe⟩:Pp) x).r.cd=0))∧c=[some (.blk false [.s s,.i .i64 ((((lsK s sb (⟨oh,oa,og,oe⟩:Pp) x)).r).pos:Nat),.slc 1 0 (((lsK s sb (⟨oh,oa,og,oe⟩:Pp) x)).r).ev.length,.slc 2 0 (((lsK s sb (⟨oh,oa,og,oe⟩:Pp) x)).r).ev.length,.mp 3,.slc 4 0 (((lsK s sb (⟨oh,oa,og,oe⟩:Pp) x)).r).hd.length,.i .i64 ((((lsK s sb (⟨oh,oa,og,oe⟩:Pp) x)).r).dp:Nat),.i .i64 (((lsK s sb (⟨oh,oa,og,oe⟩:Pp) x)).r).cd,.i .i64 ((((lsK s sb (⟨oh,oa,og,oe⟩:Pp) x)).r).pl:Nat),.b ((lsK s sb (⟨oh,oa,og,oe⟩:Pp) x)).fr,.i .i64 (((lsK s sb (⟨oh,oa,og,oe⟩:Pp) x)).lt:Nat)]),some (.row false 8 (((lsK s sb (⟨oh,oa,og,oe⟩:Pp) x)).r).ev.length (zg evc evz (((lsK s sb (⟨oh,oa,og,oe⟩:Pp) x)).r).ev)),some (.row false 1 (((lsK s sb (⟨oh,oa,og,oe⟩:Pp) x)).r).ev.length (zg qy false (((lsK s sb (⟨oh,oa,og,oe⟩:Pp) x)).r).dn)),some (.mapS (nmI (((lsK s sb (⟨oh,oa,og,oe⟩:Pp) x)).r).ev (((lsK s sb (⟨oh,oa,og,oe⟩:Pp) x)).r).bs)),some (.row false 2 (((lsK s sb (⟨oh,oa,og,oe⟩:Pp) x)).r).hd.length (zg hdc hdz (((lsK s sb (⟨oh,oa,og,oe⟩:Pp) x)).r).hd))]):=by
 refine FnK.ofE (cf:=zk Tryz.prog te [(248,xg),(281,xi)] 94 1 false (fun _=>true) (kp [(0,[0,3]),(1,[0,3,5]),(2,[0,5,6,7]),(3,[0,5,6,29]),(4,[4]),(5,[0,5,6,42]),(6,[4]),(7,[0,5,6,8]),(8,[0,5,6,8,52]),(9,[4]),(10,[0,5,6,84]),(11,[4])]) [3] [(1,[],[],.q1 0 (.q1 1 (.q1 2 (.q1 4 (.q1 5 (.q1 6 (.q0 3 [3] (.q0 7 [7] (.alt 8 (.q1 9 (.fin)) (.fin)))))))))),(2,[],[],.q1 0 (.q1 2 (.q1 3 (.q1 4 (.q0 1 [1,6,7,8,9,10,11] (.q0 5 [5,6,7,8,9,10,11] (.alt 6 (.alt 7 (.alt 8 (.alt 9 (.seq [10,11]) (.alt 10 (.seq [9,11]) (.fin))) (.alt 9 (.seq [8,10,11]) (.fin))) (.fin)) (.fin)))))))),(7,[],[],.q1 0 (.q1 1 (.q1 2 (.q1 4 (.q1 5 (.q1 6 (.q0 3 [3] (.q0 7 [7] (.alt 8 (.q1 9 (.fin)) (.fin)))))))))),(8,[],[],.q1 0 (.q1 1 (.q1 2 (.q1 3 (.q0 4 [4,5,6,7,8,9,10,11,12,13,14,15,16,17,18,19,20,21,22,23,24,25,26,27,28] (.alt 5 (.q1 6 (.q1 7 (.q1 8 (.q1 9 (.q1 10 (.q1 11 (.q1 12 (.q1 13 (.q1 14 (.q1 15 (.q1 16 (.q1 17 (.q1 18 (.q1 20 (.q1 21 (.q1 22 (.alt 19 (.seq [23,24,25,26,27,28]) (.alt 23 (.seq [19,24,25,26,27,28]) (.fin))))))))))))))))))) (.fin)))))))]) (zf te_ok (l:=[(248,xg),(281,xi)]) (⟨za7,zb2,trivial⟩) zc) Tryz.func282 rfl rfl rfl (by simp [zk]) (by simp [zk]) (rs:=[.tmp 4]) rfl 100000 ?_
 simp only [↓XC,XV,XT,Yg,seval,TES,wi,y7,XRE,XR,XRH,Yh,yo]
 obtain ⟨hs,ho,hl⟩:=hp
 have hpos:=ho.pos
 have hcd:=ho.cd
 have hsz:=ho.size hs
 rw [zu s hpos]
 refine ⟨by decide +kernel,Chk.mk hs fun _=>?_⟩
 obtain ⟨ro,hro⟩:∃ ro,ro=opR x.r 3 7 (⟨oh,oa,og,oe⟩:Pp) x.r.pos:=⟨_,rfl⟩
 refine zgl.of (ι:=Unit) (fun _=>⟨[(0,.ptr 0 0 0),(5,.i .i64 (coA s x.r.pos:Nat)),(6,.i .i64 (if 40≤x.r.dp then 0 else x.r.ev.length:Nat)),(7,.b (decide (ro.cd=0)))],[some (.blk false [.s s,.i .i64 ((ro).pos:Nat),.slc 1 0 (ro).ev.length,.slc 2 0 (ro).ev.length,.mp 3,.slc 4 0 (ro).hd.length,.i .i64 ((ro).dp:Nat),.i .i64 (ro).cd,.i .i64 ((ro).pl:Nat),.b x.fr,.i .i64 (x.lt:Nat)]),some (.row false 8 (ro).ev.length (zg evc evz (ro).ev)),some (.row false 1 (ro).ev.length (zg qy false (ro).dn)),some (.mapS (nmI (ro).ev (ro).bs)),some (.row false 2 (ro).hd.length (zg hdc hdz (ro).hd)),some (.blk false [.b oh,.s oa,.s og,.i .i64 ofr,.i .i64 (oe:Nat)])]⟩) ?_ ?_
 ·simp only [↓XC,XV,XT,Yg,seval,TES,XRE,XR,XRH,Yh,↓Ya,Yb,yo,onB]
  refine ⟨by decide +kernel, ?_⟩
  refine Wb (ropen s x.r x.fr (x.lt:Nat) 3 7 oh oa og ofr oe x.r.pos ⟨Nat.le_trans hsz (by decide),ho.dn,ho.bs,ho.cd,by decide,ho.dp⟩) ?_
  simp only [↓XC,XV,XT,Yg,seval,TES,XRE,XR,XRH,Yh,↓Ya,Yb,yo,onB,XM]
  rw [←hro]
  exact ⟨⟨⟨(),(Ent.ren1 [0,1,2,3,4,5] (by decide) (by simp only [Yd];exact ⟨za (by simp [Yf,Yh,onB]),zb fun _=>rfl,zb fun _=>rfl,zl,zb fun _=>rfl,za (by simp [Yf])⟩) (by simp [zi,Vg.look,SV.mapH,muL,onB]))⟩,⟨(),(Ent.ren1 [0,1,2,3,4,5] (by decide) (by simp only [Yd];exact ⟨za (by simp [Yf,Yh,onB]),zb fun _=>rfl,zb fun _=>rfl,zl,zb fun _=>rfl,za (by simp [Yf])⟩) (by simp [zi,Vg.look,SV.mapH,muL,onB]))⟩⟩,⟨(),(Ent.ren1 [0,1,2,3,4,5] (by decide) (by simp only [Yd];exact ⟨za (by simp [Yf,Yh,onB]),zb fun _=>rfl,zb fun _=>rfl,zl,zb fun _=>rfl,za (by simp [Yf])⟩) (by simp [zi,Vg.look,SV.mapH,muL,onB]))⟩⟩
 rintro ⟨⟩
 simp only [↓XC,XV,XT,Yg,seval,TES,XRE,XR,XRH,Yh,↓Ya,Yb,yo,onB]
 refine ⟨fun h=>?_,fun h=>?_⟩
 ·have hz:¬ro.cd=0:=by simpa using h
  have e:(lsK s sb (⟨oh,oa,og,oe⟩:Pp) x)=onB x ro:=by unfold lsK;rw [←hro,if_pos hz]
  rw [e]
  exact Wf (by simp only [↓XC,XV,XT,Yg,seval];try simp [Yf,onB,hz])
 ·have hz:ro.cd=0:=by simpa using h
  obtain ⟨hM,e1,e2,e3,e4,e5,e6⟩:=zma ho hl (show (opR x.r 3 7 (⟨oh,oa,og,oe⟩:Pp) x.r.pos).cd=0 by rw [←hro];exact hz)
  rw [←hro] at hM e1 e2 e3 e4 e5
  rw [if_neg (show ¬40≤x.r.dp by omega)]
  have e:(lsK s sb (⟨oh,oa,og,oe⟩:Pp) x)=lsL s sb (coA s x.r.pos) x.r.ev.length (onB x ro):=by unfold lsK;rw [←hro,if_neg (by simpa using hz)]
  rw [e]
  obtain ⟨R,hR⟩:∃ R,R=lsL s sb (coA s x.r.pos) x.r.ev.length (onB x ro):=⟨_,rfl⟩
  rw [←hR]
  obtain ⟨hsk,HN⟩:=HS e6
  refine yv.of (ι:={y:Rb // OkM s y.r∧y.r.dp=x.r.dp+1∧x.r.ev.length<y.r.ev.length∧lsL s sb (coA s x.r.pos) x.r.ev.length y=R}) (fun y=>⟨[(0,.ptr 0 0 0),(5,.i .i64 ((coA s x.r.pos):Nat)),(6,.i .i64 (x.r.ev.length:Nat))],[some (.blk false [.s s,.i .i64 (((y.1).r).pos:Nat),.slc 1 0 ((y.1).r).ev.length,.slc 2 0 ((y.1).r).ev.length,.mp 3,.slc 4 0 ((y.1).r).hd.length,.i .i64 (((y.1).r).dp:Nat),.i .i64 ((y.1).r).cd,.i .i64 (((y.1).r).pl:Nat),.b (y.1).fr,.i .i64 ((y.1).lt:Nat)]),some (.row false 8 ((y.1).r).ev.length (zg evc evz ((y.1).r).ev)),some (.row false 1 ((y.1).r).ev.length (zg qy false ((y.1).r).dn)),some (.mapS (nmI ((y.1).r).ev ((y.1).r).bs)),some (.row false 2 ((y.1).r).hd.length (zg hdc hdz ((y.1).r).hd)),some (.blk false [.b oh,.s oa,.s og,.i .i64 ofr,.i .i64 (oe:Nat)])]⟩) (fun y=>s.length-y.1.r.pos) ⟨onB x ro,hM,e5,(by show _<ro.ev.length;rw [e2];simp),hR.symm⟩ (Ent.ren1 [0,1,2,3,4,5] (by decide) (by simp only [Yd];exact ⟨za (by simp [Yf,Yh,onB]),zb fun _=>rfl,zb fun _=>rfl,zl,zb fun _=>rfl,za (by simp [Yf])⟩) (by simp [zi,Vg.look,SV.mapH,muL,onB])) ?_
  rintro ⟨y,hy,hyd,hye,hyR⟩
  simp only [↓XC,XV,XT,Yg,seval,TES,XRE,XR,XRH,Yh,↓Ya,Yb,yo,onB]
  have hy0:=hy.cd
  have hysz:=hy.sz
  have hypos:=hy.pos
  have hoA:Ok s (atR y.r (y.r.pos+1)):=⟨hy.cd,hypos,hy.dn,hy.bs,hy.dp,by simp only [atR];omega,hy.hd,hy.pf⟩
  have hA2:y.r.ev.length+1≤8 * (y.r.pos+1)+64:=by omega
  obtain ⟨v,hv⟩:∃ v,v=vlK s sb y.r.pos (coA s x.r.pos) true y:=⟨_,rfl⟩
  have hV:=rvalue s y sb y.r.pos (coA s x.r.pos) true (fun n i l x1 h1 h2=>HN n i l x1 h1 (by rw [h2];exact hyd)) ⟨hs,hoA,hA2,hypos⟩
  rw [←hv] at hV
  refine Wb (hV) ?_
  simp only [↓XC,XV,XT,Yg,seval,TES,XRE,XR,XRH,Yh,↓Ya,Yb,yo,onB,XM]
  by_cases hvz:v.r.cd=0
  ·have hvk:VlA s y.r (y.r.pos+1) v.r:=by
    have h:=hvz
    rw [hv] at h ⊢
    exact zul (by rw [hyd];exact hsk) hoA hA2 hypos h
   simp only [decide_eq_true hvz]
   simp only [↓XC,XV,XT,Yg,seval,TES,XRE,XR,XRH,Yh,↓Ya,Yb,yo,onB]
   have hvo:=hvk.ok
   refine Wm (rnext s v.r v.fr (v.lt:Nat) ⟨hs,hvz,hvo.pos⟩) ?_
   simp only [↓XC,XV,XT,Yg,seval,TES,XRE,XR,XRH,Yh,↓Ya,Yb,yo,onB,XM]
   obtain ⟨w,hw⟩:∃ w,w=nxK s v:=⟨_,rfl⟩
   have hw0:(nxK s ⟨v.r,v.fr,0⟩).r=w.r:=by rw [hw];rfl
   rw [hw0,show v.r.pos=w.lt by rw [hw,(zj6 s v).2],show v.fr=w.fr by rw [hw,(zj6 s v).1]]
   have hmS:lsS s sb (coA s x.r.pos) y=w:=by unfold lsS;rw [←hv,if_neg (by simpa using hvz),hw]
   by_cases hwz:w.r.cd=0
   ·simp only [decide_eq_true hwz]
    simp only [↓XC,XV,XT,Yg,seval,TES,wi,y7,XRE,XR,XRH,Yh,↓Ya,Yb,yo,onB]
    obtain ⟨v2,hEn⟩:=lsS_k (c:=(coA s x.r.pos)) (by rw [hyd];exact hsk) hy (by rw [hmS];exact hwz)
    rw [hmS] at hEn
    have hv2:=hEn.ok
    have hwp:w.r.pos≤s.length:=by rw [hEn.eq.1];exact qt s _ hv2.pos
    rw [zu s hwp]
    refine ⟨by decide +kernel,Chk.mk hs fun _=>?_⟩
    have hwev:w.r.ev=v2.ev:=by rw [hEn.eq.1];rfl
    have hwO:Ok s w.r:=by rw [hEn.eq.1];exact hv2.at (wj s v2.pos) (qt s v2.pos hv2.pos)
    have hwsz:w.r.ev.length≤16777216:=Nat.le_trans (hwO.size hs) (by decide)
    have hwk:x.r.ev.length<w.r.ev.length:=by rw [hwev];exact Nat.lt_of_lt_of_le hye hEn.pre.length_le
    have hwd:w.r.dp=x.r.dp+1:=by rw [hEn.eq.1];exact hEn.dp.trans hyd
    have hwdp:=hwO.dp
    refine ⟨by decide +kernel, ?_⟩
    refine Wm (zda s w.r w.fr (w.lt:Nat) w.r.pos ⟨hs,hwp⟩) ?_
    simp only [↓XC,XV,XT,Yg,seval,TES,wi,y7,XRE,XR,XRH,Yh,↓Ya,Yb,yo,onB,XM]
    have hwpl:zau s w.r.pos=false→w.r.pos<s.length:=fun h=>(zmj h).1
    have hC:∀ {P:Prop},(P→((P∧P)∧s.length≤1048576∧(0:Int)≤(w.r.pos:Nat)∧((w.r.pos:Nat):Int)≤(s.length:Nat))):=fun h=>⟨⟨h,h⟩,hs,by omega,by omega⟩
    cases hst:zau s w.r.pos
    ·simp only [↓XC,XV,XT,Yg,seval,TES,wi,y7,XRE,XR,XRH,Yh,↓Ya,Yb,yo,onB]
     refine ⟨Chk.mk hC fun _=>⟨fun h2=>?_,fun h2=>⟨fun h3=>?_,fun h3=>?_⟩⟩,Chk.mk hC fun _=>⟨fun h2=>?_,fun h2=>⟨fun h3=>?_,fun h3=>?_⟩⟩⟩
     rotate_left 3
     iterate 2
      rotate_left 3
      ·simp only [Bool.or_eq_true,Bool.and_eq_true,decide_eq_true_eq,Bool.not_eq_true'] at h2
       refine Wb (rdone s w.r w.fr x.r.ev.length w.lt ⟨hwsz,hwO.dn,hwO.bs,hwk,by omega,hwdp⟩) ?_
       simp only [↓XC,XV,XT,Yg,seval,TES,XRE,XR,XRH,Yh,↓Ya,Yb,yo,onB,XM]
       have e:R=dnK w x.r.ev.length:=by rw [←hyR,lsL_d hmS hwz (.inr (by rcases h2 with h | ⟨h,h9⟩;exact .inl (by omega);exact .inr ⟨by omega,h9⟩))]
       rw [e]
       try simp only [dnK,atR,shR,List.length_append,List.length_cons,List.length_nil,Nat.zero_add]
       exact Wf (by simp only [↓XC,XV,XT,Yg,seval];try simp [Yf,onB,hwz])
      ·simp only [Bool.or_eq_false_iff,Bool.and_eq_false_iff,decide_eq_false_iff_not,Bool.not_eq_false'] at h2
       have h2n:¬(zau s w.r.pos=true∨coA s w.r.pos<coA s x.r.pos∨(coA s w.r.pos=coA s x.r.pos∧zo0 s w.r.pos=false)):=by
        rw [hst]
        rintro (h | h | ⟨h,h9⟩)
        ·cases h
        ·exact h2.1 (by omega)
        ·rcases h2.2 with h8 | h8
         ·exact h8 (by omega)
         ·rw [h9] at h8;cases h8
       refine Wm (wg s w.r w.fr (w.lt:Nat) 9 w.r.pos hwz) ?_
       simp only [↓XC,XV,XT,Yg,seval,TES,XRE,XR,XRH,Yh,↓Ya,Yb,yo,onB,XM]
       have e:R=onB w (flt w.r 9 w.r.pos):=by rw [←hyR,lsL_9 hmS hwz h2n (by omega)]
       rw [e]
       exact Wf
      ·simp only [Bool.or_eq_false_iff,Bool.and_eq_false_iff,decide_eq_false_iff_not,Bool.not_eq_false'] at h2
       have h2n:¬(zau s w.r.pos=true∨coA s w.r.pos<coA s x.r.pos∨(coA s w.r.pos=coA s x.r.pos∧zo0 s w.r.pos=false)):=by
        rw [hst]
        rintro (h | h | ⟨h,h9⟩)
        ·cases h
        ·exact h2.1 (by omega)
        ·rcases h2.2 with h8 | h8
         ·exact h8 (by omega)
         ·rw [h9] at h8;cases h8
       have h3n:¬coA s x.r.pos<coA s w.r.pos:=by omega
       have hql:=hwpl hst
       obtain ⟨hM2,h6,h7⟩:=hEn.next (q:=w.r.pos) hy (by decide) (by rw [hEn.eq.1];exact Nat.le_refl _) hql
       have hwe2:atR v2 w.r.pos=w.r:=by rw [hEn.eq.1];rfl
       rw [hwe2] at hM2
       refine ⟨⟨w,hM2,hwd,hwk, ?_⟩,by show s.length-w.r.pos<_;omega,(Ent.ren1 [0,1,2,3,4,5] (by decide) (by simp only [Yd];exact ⟨za (by simp [Yf,Yh,onB]),zb fun _=>rfl,zb fun _=>rfl,zl,zb fun _=>rfl,za (by simp [Yf])⟩) (by simp [zi,Vg.look,SV.mapH,muL,onB]))⟩
       rw [←hyR,lsL_n hmS hwz h2n h3n ⟨h6,hypos⟩]
    ·simp only [↓XC,XV,XT,Yg,seval,TES,wi,y7,XRE,XR,XRH,Yh,↓Ya,Yb,yo,onB]
     refine ⟨Chk.mk hC fun _=>?_,Chk.mk hC fun _=>?_⟩
     all_goals
      refine Wb (rdone s w.r w.fr x.r.ev.length w.lt ⟨hwsz,hwO.dn,hwO.bs,hwk,by omega,hwdp⟩) ?_
      simp only [↓XC,XV,XT,Yg,seval,TES,XRE,XR,XRH,Yh,↓Ya,Yb,yo,onB,XM]
      have e:R=dnK w x.r.ev.length:=by rw [←hyR,lsL_d hmS hwz (.inl hst)]
      rw [e]
      try simp only [dnK,atR,shR,List.length_append,List.length_cons,List.length_nil,Nat.zero_add]
      exact Wf (by simp only [↓XC,XV,XT,Yg,seval];try simp [Yf,onB,hwz])
   ·simp only [decide_eq_false hwz]
    simp only [↓XC,XV,XT,Yg,seval,TES,XRE,XR,XRH,Yh,↓Ya,Yb,yo,onB]
    have e:R=w:=by rw [←hyR,lsL_m hmS hwz]
    rw [e]
    exact Wf (by simp only [↓XC,XV,XT,Yg,seval];try simp [Yf,onB,hwz])
  ·simp only [decide_eq_false hvz]
   simp only [↓XC,XV,XT,Yg,seval,TES,XRE,XR,XRH,Yh,↓Ya,Yb,yo,onB]
   have e:R=v:=by rw [←hyR,lsL_m (w:=v) (by unfold lsS;rw [←hv,if_pos hvz]) hvz]
   rw [e]
   exact Wf (by simp only [↓XC,XV,XT,Yg,seval];try simp [Yf,onB,hvz])
end Go.T
end
